/- What the functions do, part 1. -/
import Derived.Test.YtipjloclobcpkaaGreatDoorTy
set_option linter.unusedVariables false
set_option linter.unusedSimpArgs false
namespace Go.Proofs.YtipjloclobcpkaaGreatDoor
open Go.RowKit Go.Bv
def plaws_big (k : Nat) (u40 : List Int) : Option Bool :=
  some (decide ((u40.length : Int) > 1048576))
theorem claws_big {k : Nat} {u40 : List Int} {r : Bool} (h : plaws_big k u40 = some r) : FnO Tryz.prog 8 [.v (.sl (List.map cI.u8 u40)) []] (.v (.bool r) []) [] := by
  refine FnO.o2 Tryz.func8 (rfl : Tryz.f8.body = some _) ?_
  intro w0 X0 Fin pv0 pb gt
  unfold plaws_big at h
  apply Wc.seq
  refine Wc.r0 ⟨[tV 0 (.sl (List.map cI.u8 u40))], [], []⟩ ?_
  apply Wc.seq
  refine Wc.r2 [{}, { v := some (aI (u40.length : Int)) }] ⟨[tB 2 (decide ((u40.length : Int) > 1048576))], [], []⟩ (.cons (len_obl cI.u8 u40) .nil) ?_
  obtain rfl := oInj h; exact Wc.ret dn

def pQ_l03Count_L1 (k : Nat) (rspec_l03Count : GTerm → Int → Option Int) (vx : GTerm) : Nat → Int → Int → Option (Out Int Int)
  | 0, _, _ => none
  | m + 1, u1n, u26 =>
    if (decide (u26 < (vx.gKids.length : Int))) = true then
      if (decide (u1n ≥ 0)) = true then
        (at' vx.gKids u26).bind fun u75 =>
        (rspec_l03Count u75 u1n).bind fun u76 =>
        pQ_l03Count_L1 k rspec_l03Count vx m u76 (wr.i64 (u26 + 1))
      else
        some (.done u1n)
    else
      some (.done u1n)
mutual
def pQ_l03Count : Nat → GTerm → Int → Option Int
  | 0, _, _ => none
  | k + 1, vx, u27 =>
    (pQ_l03Count_L1 k (pQ_l03Count k) vx k (wr.i64 (u27 - 1)) 0).bind fun out1 => match out1 with
    | .ret r => some r
    | .done u5d =>
      some u5d
end
theorem all_pQ_l03Count : ∀ k : Nat, (∀ {vx : GTerm} {u27 : Int} {r : Int}, pQ_l03Count k vx u27 = some r → FnO Tryz.prog 103 [.v (.agg (GTerm.q vx)) [], .v (aI u27) []] (.v (aI r) []) []) := by
  intro k
  induction k with
  | zero =>
    · intro vx u27 r h
      exact (onone (by rw [pQ_l03Count] at h; exact h)).elim
  | succ k ih =>
    have ih_pQ_l03Count := @ih
    · intro vx u27 r h
      rw [pQ_l03Count] at h
      refine FnO.o2 Tryz.func103 (rfl : Tryz.f103.body = some _) ?_
      intro w0 X0 Fin pv0 pb gt
      apply Wc.seq
      refine Wc.r0 ⟨[tI 1 u27, tP 2 2], [bC 2 (GTerm.q vx)], []⟩ ?_
      apply Wc.seq
      refine Wc.r0 ⟨[tI 1 (wr.i64 (u27 - 1)), tP 2 2], [bC 2 (GTerm.q vx)], []⟩ ?_
      apply Wc.seq
      apply Wc.seq
      refine Wc.r0 ⟨[tI 1 (wr.i64 (u27 - 1)), tP 2 2, tI 5 0], [bC 2 (GTerm.q vx)], []⟩ ?_
      obtain ⟨out1, h1, h⟩ := obind h
      refine Wc.lastJ (fun st => ∃ (u5d : Int), out1 = .done u5d ∧ st = ⟨[tI 1 u5d], [], []⟩) ?_ ?_
      · refine Wc.block ?_
        refine Wc.loop (fun m st => ∃ (u1n : Int) (u26 : Int), st = ⟨[tI 1 u1n, tP 2 2, tI 5 u26], [bC 2 (GTerm.q vx)], []⟩ ∧ pQ_l03Count_L1 k (pQ_l03Count k) vx m u1n u26 = some out1) ?_ k ⟨_, _, rfl, h1⟩
        rintro m st ⟨u1n, u26, rfl, h1⟩
        cases m with
        | zero => exact (onone h1).elim
        | succ m =>
          apply Wc.seq
          apply Wc.seq
          rcases oif h1 with ⟨h2, h1⟩ | ⟨h2, h1⟩
          · refine Wc.r2 [{}, {}, {}, { v := some (aI (vx.gKids.length : Int)) }, {}, { re := some (.bool true) }] ⟨[tI 1 u1n, tP 2 2, tI 5 u26, tB 16 (decide (u1n ≥ 0))], [bC 2 (GTerm.q vx)], []⟩ (.cons (len_obl GTerm.c vx.gKids) (.cons (congrArg AV.bool h2) .nil)) ?_
            rcases oif h1 with ⟨h3, h1⟩ | ⟨h3, h1⟩
            · refine Wc.cT h3 ?_
              refine Wc.fx [] ⟨[tI 1 u1n, tP 2 2, tI 5 u26], [bC 2 (GTerm.q vx)], []⟩ ?_
              refine Wc.skip ?_
              apply Wc.seq
              refine Wc.block ?_
              obtain ⟨u75, h4, h1⟩ := obind h1
              obtain ⟨u76, h5, h1⟩ := obind h1
              refine Wc.r2 [{}, {}, {}, { v := some (.vptr (GTerm.q u75)) }, {}, {}, { r := some (.v (aI u76) []) }] ⟨[tI 1 u76, tP 2 2, tI 5 u26], [bC 2 (GTerm.q vx)], []⟩ (.cons (at_obl (c := GTerm.c) (GTerm.c_eq u75) GTerm.c_len h4) (.cons (len_ok 4 (GTerm.q u75)) (.cons (ih_pQ_l03Count h5) .nil))) ?_
              refine Wc.r0 ⟨[tI 1 u76, tP 2 2, tI 5 (wr.i64 (u26 + 1))], [bC 2 (GTerm.q vx)], []⟩ ?_
              exact ⟨_, Nat.lt_succ_self _, _, _, rfl, h1⟩
            · refine Wc.cF h3 ?_
              refine Wc.fx [] ⟨[tI 1 u1n], [], []⟩ ?_
              refine Wc.exit ?_
              obtain rfl := oInj h1
              exact ⟨_, rfl, rfl⟩
          · refine Wc.r2 [{}, {}, {}, { v := some (aI (vx.gKids.length : Int)) }, {}, { re := some (.bool false) }] ⟨[tI 1 u1n, tP 2 2, tI 5 u26, tB 16 false], [bC 2 (GTerm.q vx)], []⟩ (.cons (len_obl GTerm.c vx.gKids) (.cons (congrArg AV.bool h2) .nil)) ?_
            refine Wc.cF rfl ?_
            refine Wc.fx [] ⟨[tI 1 u1n], [], []⟩ ?_
            refine Wc.exit ?_
            obtain rfl := oInj h1
            exact ⟨_, rfl, rfl⟩
      · rintro st ⟨u5d, rfl, rfl⟩
        apply Wc.seq
        refine Wc.r0 ⟨[tI 4 u5d], [], []⟩ ?_
        obtain rfl := oInj h; exact Wc.ret dn
theorem cQ_l03Count {k : Nat} {vx : GTerm} {u27 : Int} {r : Int} (h : pQ_l03Count k vx u27 = some r) : FnO Tryz.prog 103 [.v (.agg (GTerm.q vx)) [], .v (aI u27) []] (.v (aI r) []) [] := (all_pQ_l03Count k) h

def pQ_l01In (k : Nat) (u4l : Int) (u77 : Int) (u5e : Int) : Option Bool :=
  if (decide (u4l ≥ u77)) = true then
    some (decide (u4l ≤ u5e))
  else
    some false
theorem cQ_l01In {k : Nat} {u4l : Int} {u77 : Int} {u5e : Int} {r : Bool} (h : pQ_l01In k u4l u77 u5e = some r) : FnO Tryz.prog 98 [.v (aI u4l) [], .v (aI u77) [], .v (aI u5e) []] (.v (.bool r) []) [] := by
  refine FnO.o2 Tryz.func98 (rfl : Tryz.f98.body = some _) ?_
  intro w0 X0 Fin pv0 pb gt
  unfold pQ_l01In at h
  apply Wc.seq
  refine Wc.r0 ⟨[tI 0 u4l, tI 1 u77, tI 2 u5e], [], []⟩ ?_
  apply Wc.seq
  rcases oif h with ⟨h6, h⟩ | ⟨h6, h⟩
  · refine Wc.r2 [{}, {}, {}, { re := some (.bool true) }] ⟨[tB 6 (decide (u4l ≤ u5e))], [], []⟩ (.cons (congrArg AV.bool h6) .nil) ?_
    obtain rfl := oInj h; exact Wc.ret dn
  · refine Wc.r2 [{}, {}, {}, { re := some (.bool false) }] ⟨[tB 6 false], [], []⟩ (.cons (congrArg AV.bool h6) .nil) ?_
    obtain rfl := oInj h; exact Wc.ret dn

def pQ_l03Name_L1 (k : Nat) (ve : ByteArray) : Nat → Int → Option (Out Bool Unit)
  | 0, _ => none
  | m + 1, vr =>
    if (decide (vr < (ve.size : Int))) = true then
      if 0 ≤ vr ∧ (vr).toNat < ve.size then
        if (decide ((bt ve vr) < 33)) = true then
          some (.ret false)
        else
          if 0 ≤ vr ∧ (vr).toNat < ve.size then
            if (decide ((bt ve vr) > 126)) = true then
              some (.ret false)
            else
              if 0 ≤ vr ∧ (vr).toNat < ve.size then
                if ((bt ve vr) == 39) = true then
                  some (.ret false)
                else
                  if 0 ≤ vr ∧ (vr).toNat < ve.size then
                    if ((bt ve vr) == 34) = true then
                      some (.ret false)
                    else
                      pQ_l03Name_L1 k ve m (wr.i64 (vr + 1))
                  else none
              else none
          else none
      else none
    else
      some (.done ())
def pQ_l03Name (k : Nat) (ve : ByteArray) : Option Bool :=
  (pQ_l03Name_L1 k ve k 0).bind fun out1 => match out1 with
  | .ret r => some r
  | .done () =>
    (pQ_l01In k (ve.size : Int) 1 20).bind fun uac =>
    some uac
theorem cQ_l03Name {k : Nat} {ve : ByteArray} {r : Bool} (h : pQ_l03Name k ve = some r) : FnO Tryz.prog 211 [.v (.str ve) []] (.v (.bool r) []) [] := by
  refine FnO.o2 Tryz.func211 (rfl : Tryz.f211.body = some _) ?_
  intro w0 X0 Fin pv0 pb gt
  unfold pQ_l03Name at h
  apply Wc.seq
  refine Wc.r0 ⟨[tS 0 ve], [], []⟩ ?_
  apply Wc.seq
  apply Wc.seq
  refine Wc.r0 ⟨[tS 0 ve, tI 3 0], [], []⟩ ?_
  obtain ⟨out1, h7, h⟩ := obind h
  refine Wc.lastJ (fun st => out1 = .done () ∧ st = ⟨[tS 0 ve], [], []⟩) ?_ ?_
  · refine Wc.block ?_
    refine Wc.loop (fun m st => ∃ (vr : Int), st = ⟨[tS 0 ve, tI 3 vr], [], []⟩ ∧ pQ_l03Name_L1 k ve m vr = some out1) ?_ k ⟨_, rfl, h7⟩
    rintro m st ⟨vr, rfl, h7⟩
    cases m with
    | zero => exact (onone h7).elim
    | succ m =>
      apply Wc.seq
      apply Wc.seq
      refine Wc.r0 ⟨[tS 0 ve, tI 3 vr, tB 7 (decide (vr < (ve.size : Int)))], [], []⟩ ?_
      rcases oif h7 with ⟨h8, h7⟩ | ⟨h8, h7⟩
      · refine Wc.cT h8 ?_
        refine Wc.fx [] ⟨[tS 0 ve, tI 3 vr], [], []⟩ ?_
        refine Wc.skip ?_
        apply Wc.seq
        refine Wc.block ?_
        apply Wc.seq
        obtain ⟨h9, h7⟩ := oguard h7
        rcases oif h7 with ⟨h10, h7⟩ | ⟨h10, h7⟩
        · refine Wc.r2 [{}, {}, {}, {}, { re := some (.bool true) }] ⟨[tS 0 ve, tI 3 vr, tB 31 true], [], []⟩ (.cons h9 (.cons (congrArg AV.bool h10) .nil)) ?_
          refine Wc.cT rfl ?_
          apply Wc.seq
          refine Wc.r0 ⟨[tB 2 false], [], []⟩ ?_
          refine Wc.ret ?_
          obtain rfl := oInj h7
          obtain rfl := oInj h
          exact ⟨.inl rfl, by kernel_rfl, by kernel_rfl⟩
        · obtain ⟨h11, h7⟩ := oguard h7
          rcases oif h7 with ⟨h12, h7⟩ | ⟨h12, h7⟩
          · refine Wc.r2 [{}, {}, {}, {}, { re := some (.bool false) }, {}, {}, {}, {}, {}, { re := some (.bool true) }] ⟨[tS 0 ve, tI 3 vr, tB 31 true], [], []⟩ (.cons h9 (.cons (congrArg AV.bool h10) (.cons h11 (.cons (congrArg AV.bool h12) .nil)))) ?_
            refine Wc.cT rfl ?_
            apply Wc.seq
            refine Wc.r0 ⟨[tB 2 false], [], []⟩ ?_
            refine Wc.ret ?_
            obtain rfl := oInj h7
            obtain rfl := oInj h
            exact ⟨.inl rfl, by kernel_rfl, by kernel_rfl⟩
          · obtain ⟨h13, h7⟩ := oguard h7
            rcases oif h7 with ⟨h14, h7⟩ | ⟨h14, h7⟩
            · refine Wc.r2 [{}, {}, {}, {}, { re := some (.bool false) }, {}, {}, {}, {}, {}, { re := some (.bool false) }, {}, {}, {}, {}, {}, { re := some (.bool true) }] ⟨[tS 0 ve, tI 3 vr, tB 31 true], [], []⟩ (.cons h9 (.cons (congrArg AV.bool h10) (.cons h11 (.cons (congrArg AV.bool h12) (.cons h13 (.cons (congrArg AV.bool h14) .nil)))))) ?_
              refine Wc.cT rfl ?_
              apply Wc.seq
              refine Wc.r0 ⟨[tB 2 false], [], []⟩ ?_
              refine Wc.ret ?_
              obtain rfl := oInj h7
              obtain rfl := oInj h
              exact ⟨.inl rfl, by kernel_rfl, by kernel_rfl⟩
            · obtain ⟨h15, h7⟩ := oguard h7
              refine Wc.r2 [{}, {}, {}, {}, { re := some (.bool false) }, {}, {}, {}, {}, {}, { re := some (.bool false) }, {}, {}, {}, {}, {}, { re := some (.bool false) }] ⟨[tS 0 ve, tI 3 vr, tB 31 ((bt ve vr) == 34)], [], []⟩ (.cons h9 (.cons (congrArg AV.bool h10) (.cons h11 (.cons (congrArg AV.bool h12) (.cons h13 (.cons (congrArg AV.bool h14) (.cons h15 .nil))))))) ?_
              rcases oif h7 with ⟨h16, h7⟩ | ⟨h16, h7⟩
              · refine Wc.cT h16 ?_
                apply Wc.seq
                refine Wc.r0 ⟨[tB 2 false], [], []⟩ ?_
                refine Wc.ret ?_
                obtain rfl := oInj h7
                obtain rfl := oInj h
                exact ⟨.inl rfl, by kernel_rfl, by kernel_rfl⟩
              · refine Wc.cF h16 ?_
                refine Wc.fx [] ⟨[tS 0 ve, tI 3 vr], [], []⟩ ?_
                refine Wc.skip ?_
                refine Wc.r0 ⟨[tS 0 ve, tI 3 (wr.i64 (vr + 1))], [], []⟩ ?_
                exact ⟨_, Nat.lt_succ_self _, _, rfl, h7⟩
      · refine Wc.cF h8 ?_
        refine Wc.fx [] ⟨[tS 0 ve], [], []⟩ ?_
        refine Wc.exit ?_
        obtain rfl := oInj h7
        exact ⟨rfl, rfl⟩
  · rintro st ⟨rfl, rfl⟩
    apply Wc.seq
    obtain ⟨uac, h17, h⟩ := obind h
    refine Wc.r2 [{}, {}, { r := some (.v (.bool uac) []) }] ⟨[tB 2 uac], [], []⟩ (.cons (cQ_l01In h17) .nil) ?_
    obtain rfl := oInj h; exact Wc.ret dn

def pQ_l03One (k : Nat) (uw : GTerm) : Option Bool :=
  if (uw.gKind == 1) = true then
    (pQ_l01In k uw.gNum 0 99999).bind fun u78 =>
    if u78 = true then
      if (sEq uw.gName (bs [])) = true then
        some ((uw.gKids.length : Int) == 0)
      else
        some false
    else
      some false
  else
    if (uw.gKind == 2) = true then
      (pQ_l03Name k uw.gName).bind fun u79 =>
      if u79 = true then
        if (uw.gNum == 0) = true then
          some ((uw.gKids.length : Int) == 0)
        else
          some false
      else
        some false
    else
      if (uw.gKind == 3) = true then
        (pQ_l01In k uw.gNum (-999999999) 999999999).bind fun u7a =>
        if u7a = true then
          if (sEq uw.gName (bs [])) = true then
            some ((uw.gKids.length : Int) == 0)
          else
            some false
        else
          some false
      else
        if (uw.gKind == 4) = true then
          (pQ_l03Name k uw.gName).bind fun u7b =>
          if u7b = true then
            if (uw.gNum == 0) = true then
              (pQ_l01In k (uw.gKids.length : Int) 1 5).bind fun uad =>
              some uad
            else
              some false
          else
            some false
        else
          some false
theorem cQ_l03One {k : Nat} {uw : GTerm} {r : Bool} (h : pQ_l03One k uw = some r) : FnO Tryz.prog 168 [.v (.agg (GTerm.q uw)) []] (.v (.bool r) []) [] := by
  refine FnO.o2 Tryz.func168 (rfl : Tryz.f168.body = some _) ?_
  intro w0 X0 Fin pv0 pb gt
  unfold pQ_l03One at h
  apply Wc.seq
  refine Wc.r0 ⟨[tP 1 1], [bC 1 (GTerm.q uw)], []⟩ ?_
  apply Wc.seq
  apply Wc.seq
  refine Wc.r0 ⟨[tP 1 1, tI 4 uw.gKind], [bC 1 (GTerm.q uw)], []⟩ ?_
  refine Wc.block ?_
  apply Wc.seq
  refine Wc.r0 ⟨[tP 1 1, tI 4 uw.gKind, tB 5 (uw.gKind == 1)], [bC 1 (GTerm.q uw)], []⟩ ?_
  rcases oif h with ⟨h18, h⟩ | ⟨h18, h⟩
  · refine Wc.cT h18 ?_
    apply Wc.seq
    obtain ⟨u78, h19, h⟩ := obind h
    rcases oif h with ⟨h20, h⟩ | ⟨h20, h⟩
    · rcases oif h with ⟨h21, h⟩ | ⟨h21, h⟩
      · refine Wc.r2 [{}, {}, { r := some (.v (.bool u78) []) }, { re := some (.bool true) }, {}, {}, {}, {}, { re := some (.bool true) }, {}, {}, { v := some (aI (uw.gKids.length : Int)) }] ⟨[tB 2 ((uw.gKids.length : Int) == 0)], [], []⟩ (.cons (cQ_l01In h19) (.cons (congrArg AV.bool h20) (.cons (congrArg AV.bool h21) (.cons (len_obl GTerm.c uw.gKids) .nil)))) ?_
        obtain rfl := oInj h; exact Wc.ret dn
      · refine Wc.r2 [{}, {}, { r := some (.v (.bool u78) []) }, { re := some (.bool true) }, {}, {}, {}, {}, { re := some (.bool false) }] ⟨[tB 2 false], [], []⟩ (.cons (cQ_l01In h19) (.cons (congrArg AV.bool h20) (.cons (congrArg AV.bool h21) .nil))) ?_
        obtain rfl := oInj h; exact Wc.ret dn
    · refine Wc.r2 [{}, {}, { r := some (.v (.bool u78) []) }, { re := some (.bool false) }] ⟨[tB 2 false], [], []⟩ (.cons (cQ_l01In h19) (.cons (congrArg AV.bool h20) .nil)) ?_
      obtain rfl := oInj h; exact Wc.ret dn
  · refine Wc.cF h18 ?_
    apply Wc.seq
    refine Wc.r0 ⟨[tP 1 1, tI 4 uw.gKind, tB 21 (uw.gKind == 2)], [bC 1 (GTerm.q uw)], []⟩ ?_
    rcases oif h with ⟨h22, h⟩ | ⟨h22, h⟩
    · refine Wc.cT h22 ?_
      apply Wc.seq
      obtain ⟨u79, h23, h⟩ := obind h
      rcases oif h with ⟨h24, h⟩ | ⟨h24, h⟩
      · rcases oif h with ⟨h25, h⟩ | ⟨h25, h⟩
        · refine Wc.r2 [{}, {}, { r := some (.v (.bool u79) []) }, { re := some (.bool true) }, {}, {}, {}, {}, { re := some (.bool true) }, {}, {}, { v := some (aI (uw.gKids.length : Int)) }] ⟨[tB 2 ((uw.gKids.length : Int) == 0)], [], []⟩ (.cons (cQ_l03Name h23) (.cons (congrArg AV.bool h24) (.cons (congrArg AV.bool h25) (.cons (len_obl GTerm.c uw.gKids) .nil)))) ?_
          obtain rfl := oInj h; exact Wc.ret dn
        · refine Wc.r2 [{}, {}, { r := some (.v (.bool u79) []) }, { re := some (.bool true) }, {}, {}, {}, {}, { re := some (.bool false) }] ⟨[tB 2 false], [], []⟩ (.cons (cQ_l03Name h23) (.cons (congrArg AV.bool h24) (.cons (congrArg AV.bool h25) .nil))) ?_
          obtain rfl := oInj h; exact Wc.ret dn
      · refine Wc.r2 [{}, {}, { r := some (.v (.bool u79) []) }, { re := some (.bool false) }] ⟨[tB 2 false], [], []⟩ (.cons (cQ_l03Name h23) (.cons (congrArg AV.bool h24) .nil)) ?_
        obtain rfl := oInj h; exact Wc.ret dn
    · refine Wc.cF h22 ?_
      apply Wc.seq
      refine Wc.r0 ⟨[tP 1 1, tI 4 uw.gKind, tB 37 (uw.gKind == 3)], [bC 1 (GTerm.q uw)], []⟩ ?_
      rcases oif h with ⟨h26, h⟩ | ⟨h26, h⟩
      · refine Wc.cT h26 ?_
        apply Wc.seq
        obtain ⟨u7a, h27, h⟩ := obind h
        rcases oif h with ⟨h28, h⟩ | ⟨h28, h⟩
        · rcases oif h with ⟨h29, h⟩ | ⟨h29, h⟩
          · refine Wc.r2 [{}, {}, { r := some (.v (.bool u7a) []) }, { re := some (.bool true) }, {}, {}, {}, {}, { re := some (.bool true) }, {}, {}, { v := some (aI (uw.gKids.length : Int)) }] ⟨[tB 2 ((uw.gKids.length : Int) == 0)], [], []⟩ (.cons (cQ_l01In h27) (.cons (congrArg AV.bool h28) (.cons (congrArg AV.bool h29) (.cons (len_obl GTerm.c uw.gKids) .nil)))) ?_
            obtain rfl := oInj h; exact Wc.ret dn
          · refine Wc.r2 [{}, {}, { r := some (.v (.bool u7a) []) }, { re := some (.bool true) }, {}, {}, {}, {}, { re := some (.bool false) }] ⟨[tB 2 false], [], []⟩ (.cons (cQ_l01In h27) (.cons (congrArg AV.bool h28) (.cons (congrArg AV.bool h29) .nil))) ?_
            obtain rfl := oInj h; exact Wc.ret dn
        · refine Wc.r2 [{}, {}, { r := some (.v (.bool u7a) []) }, { re := some (.bool false) }] ⟨[tB 2 false], [], []⟩ (.cons (cQ_l01In h27) (.cons (congrArg AV.bool h28) .nil)) ?_
          obtain rfl := oInj h; exact Wc.ret dn
      · refine Wc.cF h26 ?_
        apply Wc.seq
        refine Wc.r0 ⟨[tP 1 1, tB 53 (uw.gKind == 4)], [bC 1 (GTerm.q uw)], []⟩ ?_
        rcases oif h with ⟨h30, h⟩ | ⟨h30, h⟩
        · refine Wc.cT h30 ?_
          apply Wc.seq
          obtain ⟨u7b, h31, h⟩ := obind h
          rcases oif h with ⟨h32, h⟩ | ⟨h32, h⟩
          · rcases oif h with ⟨h33, h⟩ | ⟨h33, h⟩
            · obtain ⟨uad, h34, h⟩ := obind h
              refine Wc.r2 [{}, {}, { r := some (.v (.bool u7b) []) }, { re := some (.bool true) }, {}, {}, {}, {}, { re := some (.bool true) }, {}, {}, { v := some (aI (uw.gKids.length : Int)) }, { r := some (.v (.bool uad) []) }] ⟨[tB 2 uad], [], []⟩ (.cons (cQ_l03Name h31) (.cons (congrArg AV.bool h32) (.cons (congrArg AV.bool h33) (.cons (len_obl GTerm.c uw.gKids) (.cons (cQ_l01In h34) .nil))))) ?_
              obtain rfl := oInj h; exact Wc.ret dn
            · refine Wc.r2 [{}, {}, { r := some (.v (.bool u7b) []) }, { re := some (.bool true) }, {}, {}, {}, {}, { re := some (.bool false) }] ⟨[tB 2 false], [], []⟩ (.cons (cQ_l03Name h31) (.cons (congrArg AV.bool h32) (.cons (congrArg AV.bool h33) .nil))) ?_
              obtain rfl := oInj h; exact Wc.ret dn
          · refine Wc.r2 [{}, {}, { r := some (.v (.bool u7b) []) }, { re := some (.bool false) }] ⟨[tB 2 false], [], []⟩ (.cons (cQ_l03Name h31) (.cons (congrArg AV.bool h32) .nil)) ?_
            obtain rfl := oInj h; exact Wc.ret dn
        · refine Wc.cF h30 ?_
          refine Wc.fx [] ⟨[], [], []⟩ ?_
          refine Wc.skip ?_
          apply Wc.seq
          refine Wc.r0 ⟨[tB 2 false], [], []⟩ ?_
          obtain rfl := oInj h; exact Wc.ret dn

def pQ_l03Right_L1 (k : Nat) (rspec_l03Right : GTerm → Int → Option Bool) (vn : GTerm) (zc : Int) : Nat → Int → Option (Out Bool Unit)
  | 0, _ => none
  | m + 1, u1z =>
    if (decide (u1z < (vn.gKids.length : Int))) = true then
      (at' vn.gKids u1z).bind fun u7c =>
      (rspec_l03Right u7c (wr.i64 (zc + 1))).bind fun uae =>
      if (!uae) = true then
        some (.ret false)
      else
        pQ_l03Right_L1 k rspec_l03Right vn zc m (wr.i64 (u1z + 1))
    else
      some (.done ())
mutual
def pQ_l03Right : Nat → GTerm → Int → Option Bool
  | 0, _, _ => none
  | k + 1, vn, zc =>
    if (decide (zc > 40)) = true then
      some false
    else
      (pQ_l03One k vn).bind fun uaf =>
      if (!uaf) = true then
        some false
      else
        (pQ_l03Right_L1 k (pQ_l03Right k) vn zc k 0).bind fun out1 => match out1 with
        | .ret r => some r
        | .done () =>
          some true
end
theorem all_pQ_l03Right : ∀ k : Nat, (∀ {vn : GTerm} {zc : Int} {r : Bool}, pQ_l03Right k vn zc = some r → FnO Tryz.prog 104 [.v (.agg (GTerm.q vn)) [], .v (aI zc) []] (.v (.bool r) []) []) := by
  intro k
  induction k with
  | zero =>
    · intro vn zc r h
      exact (onone (by rw [pQ_l03Right] at h; exact h)).elim
  | succ k ih =>
    have ih_pQ_l03Right := @ih
    · intro vn zc r h
      rw [pQ_l03Right] at h
      refine FnO.o2 Tryz.func104 (rfl : Tryz.f104.body = some _) ?_
      intro w0 X0 Fin pv0 pb gt
      apply Wc.seq
      refine Wc.r0 ⟨[tI 1 zc, tP 2 2], [bC 2 (GTerm.q vn)], []⟩ ?_
      apply Wc.seq
      apply Wc.seq
      rcases oif h with ⟨h35, h⟩ | ⟨h35, h⟩
      · refine Wc.r2 [{}, {}, { re := some (.bool true) }] ⟨[tI 1 zc, tP 2 2, tB 12 true], [bC 2 (GTerm.q vn)], []⟩ (.cons (congrArg AV.bool h35) .nil) ?_
        refine Wc.cT rfl ?_
        apply Wc.seq
        refine Wc.r0 ⟨[tB 4 false], [], []⟩ ?_
        obtain rfl := oInj h; exact Wc.ret dn
      · obtain ⟨uaf, h36, h⟩ := obind h
        refine Wc.r2 [{}, {}, { re := some (.bool false) }, {}, { r := some (.v (.bool uaf) []) }] ⟨[tI 1 zc, tP 2 2, tB 12 (!uaf)], [bC 2 (GTerm.q vn)], []⟩ (.cons (congrArg AV.bool h35) (.cons (cQ_l03One h36) .nil)) ?_
        rcases oif h with ⟨h37, h⟩ | ⟨h37, h⟩
        · refine Wc.cT h37 ?_
          apply Wc.seq
          refine Wc.r0 ⟨[tB 4 false], [], []⟩ ?_
          obtain rfl := oInj h; exact Wc.ret dn
        · refine Wc.cF h37 ?_
          refine Wc.fx [] ⟨[tI 1 zc, tP 2 2], [bC 2 (GTerm.q vn)], []⟩ ?_
          refine Wc.skip ?_
          apply Wc.seq
          apply Wc.seq
          refine Wc.r0 ⟨[tI 1 zc, tP 2 2, tI 5 0], [bC 2 (GTerm.q vn)], []⟩ ?_
          obtain ⟨out1, h38, h⟩ := obind h
          refine Wc.lastJ (fun st => out1 = .done () ∧ st = ⟨[], [], []⟩) ?_ ?_
          · refine Wc.block ?_
            refine Wc.loop (fun m st => ∃ (u1z : Int), st = ⟨[tI 1 zc, tP 2 2, tI 5 u1z], [bC 2 (GTerm.q vn)], []⟩ ∧ pQ_l03Right_L1 k (pQ_l03Right k) vn zc m u1z = some out1) ?_ k ⟨_, rfl, h38⟩
            rintro m st ⟨u1z, rfl, h38⟩
            cases m with
            | zero => exact (onone h38).elim
            | succ m =>
              apply Wc.seq
              apply Wc.seq
              refine Wc.r2 [{}, {}, {}, { v := some (aI (vn.gKids.length : Int)) }] ⟨[tI 1 zc, tP 2 2, tI 5 u1z, tB 17 (decide (u1z < (vn.gKids.length : Int)))], [bC 2 (GTerm.q vn)], []⟩ (.cons (len_obl GTerm.c vn.gKids) .nil) ?_
              rcases oif h38 with ⟨h39, h38⟩ | ⟨h39, h38⟩
              · refine Wc.cT h39 ?_
                refine Wc.fx [] ⟨[tI 1 zc, tP 2 2, tI 5 u1z], [bC 2 (GTerm.q vn)], []⟩ ?_
                refine Wc.skip ?_
                apply Wc.seq
                refine Wc.block ?_
                apply Wc.seq
                obtain ⟨u7c, h40, h38⟩ := obind h38
                obtain ⟨uae, h41, h38⟩ := obind h38
                refine Wc.r2 [{}, {}, {}, { v := some (.vptr (GTerm.q u7c)) }, {}, {}, {}, { r := some (.v (.bool uae) []) }] ⟨[tI 1 zc, tP 2 2, tI 5 u1z, tB 28 (!uae)], [bC 2 (GTerm.q vn)], []⟩ (.cons (at_obl (c := GTerm.c) (GTerm.c_eq u7c) GTerm.c_len h40) (.cons (len_ok 4 (GTerm.q u7c)) (.cons (ih_pQ_l03Right h41) .nil))) ?_
                rcases oif h38 with ⟨h42, h38⟩ | ⟨h42, h38⟩
                · refine Wc.cT h42 ?_
                  apply Wc.seq
                  refine Wc.r0 ⟨[tB 4 false], [], []⟩ ?_
                  refine Wc.ret ?_
                  obtain rfl := oInj h38
                  obtain rfl := oInj h
                  exact ⟨.inl rfl, by kernel_rfl, by kernel_rfl⟩
                · refine Wc.cF h42 ?_
                  refine Wc.fx [] ⟨[tI 1 zc, tP 2 2, tI 5 u1z], [bC 2 (GTerm.q vn)], []⟩ ?_
                  refine Wc.skip ?_
                  refine Wc.r0 ⟨[tI 1 zc, tP 2 2, tI 5 (wr.i64 (u1z + 1))], [bC 2 (GTerm.q vn)], []⟩ ?_
                  exact ⟨_, Nat.lt_succ_self _, _, rfl, h38⟩
              · refine Wc.cF h39 ?_
                refine Wc.fx [] ⟨[], [], []⟩ ?_
                refine Wc.exit ?_
                obtain rfl := oInj h38
                exact ⟨rfl, rfl⟩
          · rintro st ⟨rfl, rfl⟩
            apply Wc.seq
            refine Wc.r0 ⟨[tB 4 true], [], []⟩ ?_
            obtain rfl := oInj h; exact Wc.ret dn
theorem cQ_l03Right {k : Nat} {vn : GTerm} {zc : Int} {r : Bool} (h : pQ_l03Right k vn zc = some r) : FnO Tryz.prog 104 [.v (.agg (GTerm.q vn)) [], .v (aI zc) []] (.v (.bool r) []) [] := (all_pQ_l03Right k) h

def pQ_TermOk (k : Nat) (u5f : GTerm) : Option Bool :=
  (pQ_l03Count k u5f 400).bind fun uag =>
  if (decide (uag ≥ 0)) = true then
    (pQ_l03Right k u5f 1).bind fun uah =>
    some uah
  else
    some false
theorem cQ_TermOk {k : Nat} {u5f : GTerm} {r : Bool} (h : pQ_TermOk k u5f = some r) : FnO Tryz.prog 50 [.v (.agg (GTerm.q u5f)) []] (.v (.bool r) []) [] := by
  refine FnO.o2 Tryz.func50 (rfl : Tryz.f50.body = some _) ?_
  intro w0 X0 Fin pv0 pb gt
  unfold pQ_TermOk at h
  apply Wc.seq
  refine Wc.r0 ⟨[tP 1 1], [bC 1 (GTerm.q u5f)], []⟩ ?_
  apply Wc.seq
  obtain ⟨uag, h43, h⟩ := obind h
  rcases oif h with ⟨h44, h⟩ | ⟨h44, h⟩
  · obtain ⟨uah, h45, h⟩ := obind h
    refine Wc.r2 [{}, { r := some (.v (aI uag) []) }, {}, { re := some (.bool true) }, {}, { r := some (.v (.bool uah) []) }] ⟨[tB 2 uah], [], []⟩ (.cons (cQ_l03Count h43) (.cons (congrArg AV.bool h44) (.cons (cQ_l03Right h45) .nil))) ?_
    obtain rfl := oInj h; exact Wc.ret dn
  · refine Wc.r2 [{}, { r := some (.v (aI uag) []) }, {}, { re := some (.bool false) }] ⟨[tB 2 false], [], []⟩ (.cons (cQ_l03Count h43) (.cons (congrArg AV.bool h44) .nil)) ?_
    obtain rfl := oInj h; exact Wc.ret dn

def pQ_l01Byte (k : Nat) (uk : GXc) : Option (GXc × Int) :=
  if (decide (uk.gI < (uk.gB.length : Int))) = true then
    (at' uk.gB uk.gI).bind fun u4m =>
    some (GXc.mk uk.gB (wr.i64 (uk.gI + 1)) (wr.i64 ((wr.i64 (uk.gH * 6364136223846793005)) + 1442695040888963407)), band .i64 (wr.i64 ((band .i64 (bxor .i64 (bshr .i64 (wr.i64 ((wr.i64 (uk.gH * 6364136223846793005)) + 1442695040888963407)) 33) (bshr .i64 (wr.i64 ((wr.i64 (uk.gH * 6364136223846793005)) + 1442695040888963407)) 45)) 255) + (wr.i64 u4m))) 255)
  else
    some (GXc.mk uk.gB uk.gI (wr.i64 ((wr.i64 (uk.gH * 6364136223846793005)) + 1442695040888963407)), band .i64 (bxor .i64 (bshr .i64 (wr.i64 ((wr.i64 (uk.gH * 6364136223846793005)) + 1442695040888963407)) 33) (bshr .i64 (wr.i64 ((wr.i64 (uk.gH * 6364136223846793005)) + 1442695040888963407)) 45)) 255)
theorem cQ_l01Byte {k : Nat} {uk : GXc} {r : GXc × Int} (h : pQ_l01Byte k uk = some r) : FnO Tryz.prog 77 [.p (GXc.q uk) []] (.v (aI r.2) []) [(0, .p (GXc.q r.1) [])] := by
  refine FnO.o2 Tryz.func77 (rfl : Tryz.f77.body = some _) ?_
  intro w0 X0 Fin pv0 pb gt
  unfold pQ_l01Byte at h
  apply Wc.seq
  refine Wc.r0 ⟨[tP 0 1000000], [bC 1000000 (GXc.q uk)], []⟩ ?_
  apply Wc.seq
  refine Wc.r0 ⟨[tP 0 1000000], [bC 1000000 [.sl (List.map cI.u8 uk.gB), aI uk.gI, aI (wr.i64 ((wr.i64 (uk.gH * 6364136223846793005)) + 1442695040888963407))]], []⟩ ?_
  apply Wc.seq
  refine Wc.draw hmix [] [] [0, 3] [1000000] [] ⟨[tP 0 1000000, tI 3 (band .i64 (bxor .i64 (bshr .i64 (wr.i64 ((wr.i64 (uk.gH * 6364136223846793005)) + 1442695040888963407)) 33) (bshr .i64 (wr.i64 ((wr.i64 (uk.gH * 6364136223846793005)) + 1442695040888963407)) 45)) 255)], [bC 1000000 [.sl (List.map cI.u8 uk.gB), aI uk.gI, aI (wr.i64 ((wr.i64 (uk.gH * 6364136223846793005)) + 1442695040888963407))]], []⟩ _ (by kernel_rfl) (fun X => by kernel_rfl) (.cons (show (0 : Int) ≤ 33 by decide) (.cons (show (0 : Int) ≤ 45 by decide) .nil)) ?_
  apply Wc.seq
  apply Wc.seq
  refine Wc.draw hmix [{}, {}, {}, {}, {}, {}, {}, {}, { v := some (aI (uk.gB.length : Int)) }] [] [0, 3, 34] [1000000] [] ⟨[tP 0 1000000, tI 3 (band .i64 (bxor .i64 (bshr .i64 (wr.i64 ((wr.i64 (uk.gH * 6364136223846793005)) + 1442695040888963407)) 33) (bshr .i64 (wr.i64 ((wr.i64 (uk.gH * 6364136223846793005)) + 1442695040888963407)) 45)) 255), tB 34 (decide (uk.gI < (uk.gB.length : Int)))], [bC 1000000 [.sl (List.map cI.u8 uk.gB), aI uk.gI, aI (wr.i64 ((wr.i64 (uk.gH * 6364136223846793005)) + 1442695040888963407))]], []⟩ _ (by kernel_rfl) (fun X => by kernel_rfl) (.cons (len_obl cI.u8 uk.gB) .nil) ?_
  rcases oif h with ⟨h46, h⟩ | ⟨h46, h⟩
  · refine Wc.cT h46 ?_
    apply Wc.seq
    obtain ⟨u4m, h47, h⟩ := obind h
    refine Wc.draw hmix [{}, {}, {}, {}, {}, {}, {}, {}, {}, { v := some (.vptr [.int .u8 u4m]) }] [] [0, 3] [1000000] [] ⟨[tP 0 1000000, tI 3 (band .i64 (wr.i64 ((band .i64 (bxor .i64 (bshr .i64 (wr.i64 ((wr.i64 (uk.gH * 6364136223846793005)) + 1442695040888963407)) 33) (bshr .i64 (wr.i64 ((wr.i64 (uk.gH * 6364136223846793005)) + 1442695040888963407)) 45)) 255) + (wr.i64 u4m))) 255)], [bC 1000000 [.sl (List.map cI.u8 uk.gB), aI uk.gI, aI (wr.i64 ((wr.i64 (uk.gH * 6364136223846793005)) + 1442695040888963407))]], []⟩ _ (by kernel_rfl) (fun X => by kernel_rfl) (.cons (at_obl (c := cI.u8) rfl cI.u8_len h47) (.cons (len_ok 1 [.int .u8 u4m]) .nil)) ?_
    refine Wc.r0 ⟨[tI 3 (band .i64 (wr.i64 ((band .i64 (bxor .i64 (bshr .i64 (wr.i64 ((wr.i64 (uk.gH * 6364136223846793005)) + 1442695040888963407)) 33) (bshr .i64 (wr.i64 ((wr.i64 (uk.gH * 6364136223846793005)) + 1442695040888963407)) 45)) 255) + (wr.i64 u4m))) 255)], [bC 1000000 [.sl (List.map cI.u8 uk.gB), aI (wr.i64 (uk.gI + 1)), aI (wr.i64 ((wr.i64 (uk.gH * 6364136223846793005)) + 1442695040888963407))]], []⟩ ?_
    apply Wc.seq
    refine Wc.r0 ⟨[tI 2 (band .i64 (wr.i64 ((band .i64 (bxor .i64 (bshr .i64 (wr.i64 ((wr.i64 (uk.gH * 6364136223846793005)) + 1442695040888963407)) 33) (bshr .i64 (wr.i64 ((wr.i64 (uk.gH * 6364136223846793005)) + 1442695040888963407)) 45)) 255) + (wr.i64 u4m))) 255)], [bC 1000000 [.sl (List.map cI.u8 uk.gB), aI (wr.i64 (uk.gI + 1)), aI (wr.i64 ((wr.i64 (uk.gH * 6364136223846793005)) + 1442695040888963407))]], []⟩ ?_
    obtain rfl := oInj h; exact Wc.ret dn
  · refine Wc.cF h46 ?_
    refine Wc.fx [] ⟨[tI 3 (band .i64 (bxor .i64 (bshr .i64 (wr.i64 ((wr.i64 (uk.gH * 6364136223846793005)) + 1442695040888963407)) 33) (bshr .i64 (wr.i64 ((wr.i64 (uk.gH * 6364136223846793005)) + 1442695040888963407)) 45)) 255)], [bC 1000000 [.sl (List.map cI.u8 uk.gB), aI uk.gI, aI (wr.i64 ((wr.i64 (uk.gH * 6364136223846793005)) + 1442695040888963407))]], []⟩ ?_
    refine Wc.skip ?_
    apply Wc.seq
    refine Wc.r0 ⟨[tI 2 (band .i64 (bxor .i64 (bshr .i64 (wr.i64 ((wr.i64 (uk.gH * 6364136223846793005)) + 1442695040888963407)) 33) (bshr .i64 (wr.i64 ((wr.i64 (uk.gH * 6364136223846793005)) + 1442695040888963407)) 45)) 255)], [bC 1000000 [.sl (List.map cI.u8 uk.gB), aI uk.gI, aI (wr.i64 ((wr.i64 (uk.gH * 6364136223846793005)) + 1442695040888963407))]], []⟩ ?_
    obtain rfl := oInj h; exact Wc.ret dn

def pQ_l01Below (k : Nat) (u28 : GXc) (zp : Int) : Option (GXc × Int) :=
  if (decide (zp ≤ 0)) = true then
    some (u28, 0)
  else
    if (decide (zp ≤ 256)) = true then
      (pQ_l01Byte k u28).bind fun u4n =>
      if (zp : Int) ≠ 0 then
        some (u4n.1, Int.tmod u4n.2 zp)
      else none
    else
      (pQ_l01Byte k u28).bind fun u2q =>
      (pQ_l01Byte k u2q.1).bind fun u31 =>
      (pQ_l01Byte k u31.1).bind fun u3h =>
      (pQ_l01Byte k u3h.1).bind fun u3i =>
      if (zp : Int) ≠ 0 then
        some (u3i.1, Int.tmod (wr.i64 ((wr.i64 ((wr.i64 ((wr.i64 (u2q.2 * 16777216)) + (wr.i64 (u31.2 * 65536)))) + (wr.i64 (u3h.2 * 256)))) + u3i.2)) zp)
      else none
theorem cQ_l01Below {k : Nat} {u28 : GXc} {zp : Int} {r : GXc × Int} (h : pQ_l01Below k u28 zp = some r) : FnO Tryz.prog 78 [.p (GXc.q u28) [], .v (aI zp) []] (.v (aI r.2) []) [(0, .p (GXc.q r.1) [])] := by
  refine FnO.o2 Tryz.func78 (rfl : Tryz.f78.body = some _) ?_
  intro w0 X0 Fin pv0 pb gt
  unfold pQ_l01Below at h
  apply Wc.seq
  refine Wc.r0 ⟨[tP 0 1000000, tI 1 zp], [bC 1000000 (GXc.q u28)], []⟩ ?_
  apply Wc.seq
  apply Wc.seq
  refine Wc.r0 ⟨[tP 0 1000000, tI 1 zp, tB 10 (decide (zp ≤ 0))], [bC 1000000 (GXc.q u28)], []⟩ ?_
  rcases oif h with ⟨h48, h⟩ | ⟨h48, h⟩
  · refine Wc.cT h48 ?_
    apply Wc.seq
    refine Wc.r0 ⟨[tI 4 0], [bC 1000000 (GXc.q u28)], []⟩ ?_
    obtain rfl := oInj h; exact Wc.ret dn
  · refine Wc.cF h48 ?_
    refine Wc.fx [] ⟨[tP 0 1000000, tI 1 zp], [bC 1000000 (GXc.q u28)], []⟩ ?_
    refine Wc.skip ?_
    apply Wc.seq
    apply Wc.seq
    refine Wc.r0 ⟨[tP 0 1000000, tI 1 zp, tB 12 (decide (zp ≤ 256))], [bC 1000000 (GXc.q u28)], []⟩ ?_
    rcases oif h with ⟨h49, h⟩ | ⟨h49, h⟩
    · refine Wc.cT h49 ?_
      apply Wc.seq
      obtain ⟨u4n, h50, h⟩ := obind h
      obtain ⟨h51, h⟩ := oguard h
      refine Wc.r2 [{}, { r := some (.v (aI u4n.2) []), outs := [(0, .p (GXc.q u4n.1) [])] }] ⟨[tI 4 (Int.tmod u4n.2 zp)], [bC 1000000 (GXc.q u4n.1)], []⟩ (.cons (cQ_l01Byte h50) (.cons h51 .nil)) ?_
      obtain rfl := oInj h; exact Wc.ret dn
    · refine Wc.cF h49 ?_
      refine Wc.fx [] ⟨[tP 0 1000000, tI 1 zp], [bC 1000000 (GXc.q u28)], []⟩ ?_
      refine Wc.skip ?_
      apply Wc.seq
      obtain ⟨u2q, h52, h⟩ := obind h
      refine Wc.r2 [{}, { r := some (.v (aI u2q.2) []), outs := [(0, .p (GXc.q u2q.1) [])] }] ⟨[tP 0 1000000, tI 1 zp, tI 5 u2q.2], [bC 1000000 (GXc.q u2q.1)], []⟩ (.cons (cQ_l01Byte h52) .nil) ?_
      apply Wc.seq
      obtain ⟨u31, h53, h⟩ := obind h
      refine Wc.r2 [{}, { r := some (.v (aI u31.2) []), outs := [(0, .p (GXc.q u31.1) [])] }] ⟨[tP 0 1000000, tI 1 zp, tI 5 u2q.2, tI 6 u31.2], [bC 1000000 (GXc.q u31.1)], []⟩ (.cons (cQ_l01Byte h53) .nil) ?_
      apply Wc.seq
      obtain ⟨u3h, h54, h⟩ := obind h
      refine Wc.r2 [{}, { r := some (.v (aI u3h.2) []), outs := [(0, .p (GXc.q u3h.1) [])] }] ⟨[tP 0 1000000, tI 1 zp, tI 5 u2q.2, tI 6 u31.2, tI 7 u3h.2], [bC 1000000 (GXc.q u3h.1)], []⟩ (.cons (cQ_l01Byte h54) .nil) ?_
      apply Wc.seq
      obtain ⟨u3i, h55, h⟩ := obind h
      refine Wc.r2 [{}, { r := some (.v (aI u3i.2) []), outs := [(0, .p (GXc.q u3i.1) [])] }] ⟨[tI 1 zp, tI 5 u2q.2, tI 6 u31.2, tI 7 u3h.2, tI 8 u3i.2], [bC 1000000 (GXc.q u3i.1)], []⟩ (.cons (cQ_l01Byte h55) .nil) ?_
      apply Wc.seq
      obtain ⟨h56, h⟩ := oguard h
      refine Wc.r2 [] ⟨[tI 4 (Int.tmod (wr.i64 ((wr.i64 ((wr.i64 ((wr.i64 (u2q.2 * 16777216)) + (wr.i64 (u31.2 * 65536)))) + (wr.i64 (u3h.2 * 256)))) + u3i.2)) zp)], [bC 1000000 (GXc.q u3i.1)], []⟩ (.cons h56 .nil) ?_
      obtain rfl := oInj h; exact Wc.ret dn

def pQ_l01Pick (k : Nat) (u7d : GXc) (u41 : List ByteArray) : Option (GXc × ByteArray) :=
  (pQ_l01Below k u7d (u41.length : Int)).bind fun u5g =>
  (at' u41 u5g.2).bind fun u7e =>
  some (u5g.1, u7e)
theorem cQ_l01Pick {k : Nat} {u7d : GXc} {u41 : List ByteArray} {r : GXc × ByteArray} (h : pQ_l01Pick k u7d u41 = some r) : FnO Tryz.prog 47 [.p (GXc.q u7d) [], .v (.sl (List.map cS u41)) []] (.v (.str r.2) []) [(0, .p (GXc.q r.1) [])] := by
  refine FnO.o2 Tryz.func47 (rfl : Tryz.f47.body = some _) ?_
  intro w0 X0 Fin pv0 pb gt
  unfold pQ_l01Pick at h
  apply Wc.seq
  refine Wc.r0 ⟨[tP 0 1000000, tV 1 (.sl (List.map cS u41))], [bC 1000000 (GXc.q u7d)], []⟩ ?_
  apply Wc.seq
  obtain ⟨u5g, h57, h⟩ := obind h
  obtain ⟨u7e, h58, h⟩ := obind h
  refine Wc.r2 [{}, {}, {}, { v := some (aI (u41.length : Int)) }, { r := some (.v (aI u5g.2) []), outs := [(0, .p (GXc.q u5g.1) [])] }, { v := some (.vptr [.str u7e]) }] ⟨[tS 4 u7e], [bC 1000000 (GXc.q u5g.1)], []⟩ (.cons (len_obl cS u41) (.cons (cQ_l01Below h57) (.cons (at_obl (c := cS) rfl cS_len h58) (.cons (len_ok 1 [.str u7e]) .nil)))) ?_
  obtain rfl := oInj h; exact Wc.ret dn

def pQ_l03Atom (k : Nat) (u5h : ByteArray) : Option GTerm :=
  some (GTerm.mk 2 u5h 0 [])
theorem cQ_l03Atom {k : Nat} {u5h : ByteArray} {r : GTerm} (h : pQ_l03Atom k u5h = some r) : FnO Tryz.prog 90 [.v (.str u5h) []] (.v (.agg (GTerm.q r)) [(3, .app 26)]) [] := by
  refine FnO.o2 Tryz.func90 (rfl : Tryz.f90.body = some _) ?_
  intro w0 X0 Fin pv0 pb gt
  unfold pQ_l03Atom at h
  apply Wc.seq
  refine Wc.r0 ⟨[tS 0 u5h, tP 2 2], [(2, .cells GTerm.z [(3, .app 26)])], []⟩ ?_
  apply Wc.seq
  refine Wc.r1 [{}, {}, { tk := [4] }] ⟨[tP 2 2], [(2, .cells [aI 2, .str u5h, aI 0, .sl (List.map GTerm.c [])] [(3, .app 26)])], []⟩ ?_
  obtain rfl := oInj h; exact Wc.ret dn

def pQ_l03Var (k : Nat) (u5i : Int) : Option GTerm :=
  some (GTerm.mk 1 (bs []) u5i [])
theorem cQ_l03Var {k : Nat} {u5i : Int} {r : GTerm} (h : pQ_l03Var k u5i = some r) : FnO Tryz.prog 146 [.v (aI u5i) []] (.v (.agg (GTerm.q r)) [(3, .app 26)]) [] := by
  refine FnO.o2 Tryz.func146 (rfl : Tryz.f146.body = some _) ?_
  intro w0 X0 Fin pv0 pb gt
  unfold pQ_l03Var at h
  apply Wc.seq
  refine Wc.r0 ⟨[tI 0 u5i, tP 2 2], [(2, .cells GTerm.z [(3, .app 26)])], []⟩ ?_
  apply Wc.seq
  refine Wc.r1 [{}, {}, { tk := [4] }] ⟨[tP 2 2], [(2, .cells [aI 1, .str (bs []), aI u5i, .sl (List.map GTerm.c [])] [(3, .app 26)])], []⟩ ?_
  obtain rfl := oInj h; exact Wc.ret dn

def pQ_l03Num (k : Nat) (u5j : Int) : Option GTerm :=
  some (GTerm.mk 3 (bs []) u5j [])
theorem cQ_l03Num {k : Nat} {u5j : Int} {r : GTerm} (h : pQ_l03Num k u5j = some r) : FnO Tryz.prog 147 [.v (aI u5j) []] (.v (.agg (GTerm.q r)) [(3, .app 26)]) [] := by
  refine FnO.o2 Tryz.func147 (rfl : Tryz.f147.body = some _) ?_
  intro w0 X0 Fin pv0 pb gt
  unfold pQ_l03Num at h
  apply Wc.seq
  refine Wc.r0 ⟨[tI 0 u5j, tP 2 2], [(2, .cells GTerm.z [(3, .app 26)])], []⟩ ?_
  apply Wc.seq
  refine Wc.r1 [{}, {}, { tk := [4] }] ⟨[tP 2 2], [(2, .cells [aI 3, .str (bs []), aI u5j, .sl (List.map GTerm.c [])] [(3, .app 26)])], []⟩ ?_
  obtain rfl := oInj h; exact Wc.ret dn

def pQ_l01PickInt (k : Nat) (u7f : GXc) (u42 : List Int) : Option (GXc × Int) :=
  (pQ_l01Below k u7f (u42.length : Int)).bind fun u5k =>
  (at' u42 u5k.2).bind fun u7g =>
  some (u5k.1, u7g)
theorem cQ_l01PickInt {k : Nat} {u7f : GXc} {u42 : List Int} {r : GXc × Int} (h : pQ_l01PickInt k u7f u42 = some r) : FnO Tryz.prog 148 [.p (GXc.q u7f) [], .v (.sl (List.map cI.i64 u42)) []] (.v (aI r.2) []) [(0, .p (GXc.q r.1) [])] := by
  refine FnO.o2 Tryz.func148 (rfl : Tryz.f148.body = some _) ?_
  intro w0 X0 Fin pv0 pb gt
  unfold pQ_l01PickInt at h
  apply Wc.seq
  refine Wc.r0 ⟨[tP 0 1000000, tV 1 (.sl (List.map cI.i64 u42))], [bC 1000000 (GXc.q u7f)], []⟩ ?_
  apply Wc.seq
  obtain ⟨u5k, h59, h⟩ := obind h
  obtain ⟨u7g, h60, h⟩ := obind h
  refine Wc.r2 [{}, {}, {}, { v := some (aI (u42.length : Int)) }, { r := some (.v (aI u5k.2) []), outs := [(0, .p (GXc.q u5k.1) [])] }, { v := some (.vptr [aI u7g]) }] ⟨[tI 4 u7g], [bC 1000000 (GXc.q u5k.1)], []⟩ (.cons (len_obl cI.i64 u42) (.cons (cQ_l01Below h59) (.cons (at_obl (c := cI.i64) rfl cI.i64_len h60) (.cons (len_ok 1 [aI u7g]) .nil)))) ?_
  obtain rfl := oInj h; exact Wc.ret dn

def pQ_l03Two (k : Nat) (u5l : ByteArray) (u3j : GTerm) (u3k : GTerm) : Option GTerm :=
  some (GTerm.mk 4 u5l 0 [u3j, u3k])
theorem cQ_l03Two {k : Nat} {u5l : ByteArray} {u3j : GTerm} {u3k : GTerm} {r : GTerm} (h : pQ_l03Two k u5l u3j u3k = some r) : FnO Tryz.prog 149 [.v (.str u5l) [], .v (.agg (GTerm.q u3j)) [], .v (.agg (GTerm.q u3k)) []] (.v (.agg (GTerm.q r)) [(3, .app 26)]) [] := by
  refine FnO.o2 Tryz.func149 (rfl : Tryz.f149.body = some _) ?_
  intro w0 X0 Fin pv0 pb gt
  unfold pQ_l03Two at h
  apply Wc.seq
  refine Wc.r0 ⟨[tS 0 u5l, tP 4 4, tP 5 5, tP 6 6], [bC 4 (GTerm.q u3j), bC 5 (GTerm.q u3k), (6, .cells GTerm.z [(3, .app 26)])], []⟩ ?_
  apply Wc.seq
  refine Wc.r2 [{}, {}, {}, { c := some (List.map GTerm.c [u3j, u3k]) }, { tk := [10] }, { tk := [11] }] ⟨[tP 6 6], [(6, .cells [aI 4, .str u5l, aI 0, .sl (List.map GTerm.c [u3j, u3k])] [(3, .app 26)])], []⟩ (.cons (cl_cons (c := GTerm.c) (x := u3j) (GTerm.c_eq u3j) (cl_cons (c := GTerm.c) (x := u3k) (GTerm.c_eq u3k) (cl_nil GTerm.c))) .nil) ?_
  obtain rfl := oInj h; exact Wc.ret dn

def pQ_l03Made_L2 (k : Nat) (rspec_l03Made : GXc → Int → Option (GXc × GTerm)) (uv : Int) : Nat → Int → GTerm → GXc → Option (Out (GXc × GTerm) (GTerm × GXc))
  | 0, _, _, _ => none
  | m + 1, u1e, vf, u7h =>
    (pQ_l01Below k u7h 3).bind fun u1o =>
    if (decide (u1e < (wr.i64 (1 + u1o.2)))) = true then
      if (decide ((vf.gKids.length : Int) < 5)) = true then
        (rspec_l03Made u1o.1 (wr.i64 (uv - 1))).bind fun u0i =>
        if vf.gKids.length + [u0i.2].length ≤ 1073741824 then
          pQ_l03Made_L2 k rspec_l03Made uv m (wr.i64 (u1e + 1)) (GTerm.mk vf.gKind vf.gName vf.gNum (vf.gKids ++ [u0i.2])) u0i.1
        else none
      else
        pQ_l03Made_L2 k rspec_l03Made uv m (wr.i64 (u1e + 1)) vf u1o.1
    else
      some (.done (vf, u1o.1))
def pQ_l03Made_J1 (k : Nat) (rspec_l03Made : GXc → Int → Option (GXc × GTerm)) (vi : GXc × Int) (uv : Int) (u0b : Int) : Option (GXc × GTerm) :=
  if (decide (u0b < 2)) = true then
    (pQ_l01Below k vi.1 4).bind fun u5m =>
    (pQ_l03Var k u5m.2).bind fun uai =>
    some (u5m.1, uai)
  else
    if (decide (u0b < 4)) = true then
      if 0 ≤ (0 : Int) ∧ (0 : Int) ≤ 1 ∧ 1 ≤ ((bs [120, 32, 121]).size : Int) then
        (pQ_l01Pick k vi.1 [(bs [97]), (bs [98]), (bs [91, 93]), (bs [43]), (bs [66, 105, 103]), (bs [120, 32, 121]).extract ((0 : Int) : Int).toNat (1 : Int).toNat, (bs [58, 45]), (bs [61, 46, 46])]).bind fun u5n =>
        (pQ_l03Atom k u5n.2).bind fun uaj =>
        some (u5n.1, uaj)
      else none
    else
      if (decide (u0b < 6)) = true then
        (pQ_l01PickInt k vi.1 [0, 1, -7, 999999999]).bind fun u5o =>
        (pQ_l03Num k u5o.2).bind fun uak =>
        some (u5o.1, uak)
      else
        if (u0b == 6) = true then
          (rspec_l03Made vi.1 (wr.i64 (uv - 1))).bind fun u7i =>
          (rspec_l03Made u7i.1 (wr.i64 (uv - 1))).bind fun u5p =>
          (pQ_l03Two k (bs [46]) u7i.2 u5p.2).bind fun ual =>
          some (u5p.1, ual)
        else
          if (u0b == 7) = true then
            (pQ_l01Pick k vi.1 [(bs [43]), (bs [61]), (bs [44]), (bs [102]), (bs [59])]).bind fun u7j =>
            (rspec_l03Made u7j.1 (wr.i64 (uv - 1))).bind fun u7k =>
            (rspec_l03Made u7k.1 (wr.i64 (uv - 1))).bind fun u5q =>
            (pQ_l03Two k u7j.2 u7k.2 u5q.2).bind fun uam =>
            some (u5q.1, uam)
          else
            (pQ_l01Pick k vi.1 [(bs [102]), (bs [103]), (bs [45]), (bs [91, 93])]).bind fun u3l =>
            (pQ_l03Made_L2 k rspec_l03Made uv k 0 (GTerm.mk 4 u3l.2 0 []) u3l.1).bind fun out2 => match out2 with
            | .ret r => some r
            | .done (u5r, u5s) =>
              some (u5s, u5r)
mutual
def pQ_l03Made : Nat → GXc → Int → Option (GXc × GTerm)
  | 0, _, _ => none
  | k + 1, u32, uv =>
    (pQ_l01Below k u32 10).bind fun vi =>
    if (decide (uv ≤ 0)) = true then
      if (6 : Int) ≠ 0 then
        pQ_l03Made_J1 k (pQ_l03Made k) vi uv (Int.tmod vi.2 6)
      else none
    else
      pQ_l03Made_J1 k (pQ_l03Made k) vi uv vi.2
end
set_option maxHeartbeats 4000000 in
theorem all_pQ_l03Made : ∀ k : Nat, (∀ {u32 : GXc} {uv : Int} {r : GXc × GTerm}, pQ_l03Made k u32 uv = some r → FnO Tryz.prog 89 [.p (GXc.q u32) [], .v (aI uv) []] (.v (.agg (GTerm.q r.2)) [(3, .app 26)]) [(0, .p (GXc.q r.1) [])]) := by
  intro k
  induction k with
  | zero =>
    · intro u32 uv r h
      exact (onone (by rw [pQ_l03Made] at h; exact h)).elim
  | succ k ih =>
    have ih_pQ_l03Made := @ih
    · intro u32 uv r h
      rw [pQ_l03Made] at h
      refine FnO.o2 Tryz.func89 (rfl : Tryz.f89.body = some _) ?_
      intro w0 X0 Fin pv0 pb gt
      apply Wc.seq
      refine Wc.r0 ⟨[tP 0 1000000, tI 1 uv, tP 4 4], [(4, .cells GTerm.z [(3, .app 26)]), bC 1000000 (GXc.q u32)], []⟩ ?_
      apply Wc.seq
      obtain ⟨vi, h90, h⟩ := obind h
      refine Wc.r2 [{}, { r := some (.v (aI vi.2) []), outs := [(0, .p (GXc.q vi.1) [])] }] ⟨[tP 0 1000000, tI 1 uv, tP 4 4, tI 5 vi.2], [(4, .cells GTerm.z [(3, .app 26)]), bC 1000000 (GXc.q vi.1)], []⟩ (.cons (cQ_l01Below h90) .nil) ?_
      refine Wc.seqJ (fun st => ∃ (u0b : Int), st = ⟨[tP 0 1000000, tI 1 uv, tP 4 4, tI 5 u0b], [(4, .cells GTerm.z [(3, .app 26)]), bC 1000000 (GXc.q vi.1)], []⟩ ∧ pQ_l03Made_J1 k (pQ_l03Made k) vi uv u0b = some r) ?_ ?_
      · apply Wc.seq
        refine Wc.r0 ⟨[tP 0 1000000, tI 1 uv, tP 4 4, tI 5 vi.2, tB 11 (decide (uv ≤ 0))], [(4, .cells GTerm.z [(3, .app 26)]), bC 1000000 (GXc.q vi.1)], []⟩ ?_
        rcases oif h with ⟨h117, h⟩ | ⟨h117, h⟩
        · refine Wc.cT h117 ?_
          obtain ⟨h118, h⟩ := oguard h
          refine Wc.r2 [] ⟨[tP 0 1000000, tI 1 uv, tP 4 4, tI 5 (Int.tmod vi.2 6)], [(4, .cells GTerm.z [(3, .app 26)]), bC 1000000 (GXc.q vi.1)], []⟩ (.cons h118 .nil) ?_
          exact ⟨_, rfl, h⟩
        · refine Wc.cF h117 ?_
          refine Wc.fx [] ⟨[tP 0 1000000, tI 1 uv, tP 4 4, tI 5 vi.2], [(4, .cells GTerm.z [(3, .app 26)]), bC 1000000 (GXc.q vi.1)], []⟩ ?_
          refine Wc.skip ?_
          exact ⟨_, rfl, h⟩
      · rintro st ⟨u0b, rfl, h⟩
        apply Wc.seq
        refine Wc.block ?_
        apply Wc.seq
        refine Wc.r0 ⟨[tP 0 1000000, tI 1 uv, tP 4 4, tI 5 u0b, tB 14 (decide (u0b < 2))], [(4, .cells GTerm.z [(3, .app 26)]), bC 1000000 (GXc.q vi.1)], []⟩ ?_
        rcases oif h with ⟨h91, h⟩ | ⟨h91, h⟩
        · refine Wc.cT h91 ?_
          apply Wc.seq
          obtain ⟨u5m, h92, h⟩ := obind h
          obtain ⟨uai, h93, h⟩ := obind h
          refine Wc.r2 [{}, { r := some (.v (aI u5m.2) []), outs := [(0, .p (GXc.q u5m.1) [])] }, { r := some (.v (.agg (GTerm.q uai)) [(3, .app 26)]) }, { tk := [19] }] ⟨[tP 4 4], [(4, .cells (GTerm.q uai) [(3, .app 26)]), bC 1000000 (GXc.q u5m.1)], []⟩ (.cons (cQ_l01Below h92) (.cons (cQ_l03Var h93) .nil)) ?_
          obtain rfl := oInj h; exact Wc.ret dn
        · refine Wc.cF h91 ?_
          apply Wc.seq
          refine Wc.r0 ⟨[tP 0 1000000, tI 1 uv, tP 4 4, tI 5 u0b, tB 20 (decide (u0b < 4))], [(4, .cells GTerm.z [(3, .app 26)]), bC 1000000 (GXc.q vi.1)], []⟩ ?_
          rcases oif h with ⟨h94, h⟩ | ⟨h94, h⟩
          · refine Wc.cT h94 ?_
            apply Wc.seq
            obtain ⟨h95, h⟩ := oguard h
            obtain ⟨u5n, h96, h⟩ := obind h
            obtain ⟨uaj, h97, h⟩ := obind h
            refine Wc.r2 [{}, {}, { c := some (List.map cS [(bs [97]), (bs [98]), (bs [91, 93]), (bs [43]), (bs [66, 105, 103]), (bs [120, 32, 121]).extract ((0 : Int) : Int).toNat (1 : Int).toNat, (bs [58, 45]), (bs [61, 46, 46])]) }, { r := some (.v (.str u5n.2) []), outs := [(0, .p (GXc.q u5n.1) [])] }, { r := some (.v (.agg (GTerm.q uaj)) [(3, .app 26)]) }, { tk := [27] }] ⟨[tP 4 4], [(4, .cells (GTerm.q uaj) [(3, .app 26)]), bC 1000000 (GXc.q u5n.1)], []⟩ (.cons h95 (.cons (cl_cons (c := cS) (x := (bs [97])) rfl (cl_cons (c := cS) (x := (bs [98])) rfl (cl_cons (c := cS) (x := (bs [91, 93])) rfl (cl_cons (c := cS) (x := (bs [43])) rfl (cl_cons (c := cS) (x := (bs [66, 105, 103])) rfl (cl_cons (c := cS) (x := (bs [120, 32, 121]).extract ((0 : Int) : Int).toNat (1 : Int).toNat) rfl (cl_cons (c := cS) (x := (bs [58, 45])) rfl (cl_cons (c := cS) (x := (bs [61, 46, 46])) rfl (cl_nil cS))))))))) (.cons (cQ_l01Pick h96) (.cons (cQ_l03Atom h97) .nil)))) ?_
            obtain rfl := oInj h; exact Wc.ret dn
          · refine Wc.cF h94 ?_
            apply Wc.seq
            refine Wc.r0 ⟨[tP 0 1000000, tI 1 uv, tP 4 4, tI 5 u0b, tB 28 (decide (u0b < 6))], [(4, .cells GTerm.z [(3, .app 26)]), bC 1000000 (GXc.q vi.1)], []⟩ ?_
            rcases oif h with ⟨h98, h⟩ | ⟨h98, h⟩
            · refine Wc.cT h98 ?_
              apply Wc.seq
              obtain ⟨u5o, h99, h⟩ := obind h
              obtain ⟨uak, h100, h⟩ := obind h
              refine Wc.r2 [{}, { c := some (List.map cI.i64 [0, 1, -7, 999999999]) }, { r := some (.v (aI u5o.2) []), outs := [(0, .p (GXc.q u5o.1) [])] }, { r := some (.v (.agg (GTerm.q uak)) [(3, .app 26)]) }, { tk := [34] }] ⟨[tP 4 4], [(4, .cells (GTerm.q uak) [(3, .app 26)]), bC 1000000 (GXc.q u5o.1)], []⟩ (.cons (cl_cons (c := cI.i64) (x := 0) rfl (cl_cons (c := cI.i64) (x := 1) rfl (cl_cons (c := cI.i64) (x := -7) rfl (cl_cons (c := cI.i64) (x := 999999999) rfl (cl_nil cI.i64))))) (.cons (cQ_l01PickInt h99) (.cons (cQ_l03Num h100) .nil))) ?_
              obtain rfl := oInj h; exact Wc.ret dn
            · refine Wc.cF h98 ?_
              apply Wc.seq
              refine Wc.r0 ⟨[tP 0 1000000, tI 1 uv, tP 4 4, tI 5 u0b, tB 35 (u0b == 6)], [(4, .cells GTerm.z [(3, .app 26)]), bC 1000000 (GXc.q vi.1)], []⟩ ?_
              rcases oif h with ⟨h101, h⟩ | ⟨h101, h⟩
              · refine Wc.cT h101 ?_
                apply Wc.seq
                obtain ⟨u7i, h102, h⟩ := obind h
                obtain ⟨u5p, h103, h⟩ := obind h
                obtain ⟨ual, h104, h⟩ := obind h
                refine Wc.r2 [{}, {}, {}, { r := some (.v (.agg (GTerm.q u7i.2)) [(3, .app 26)]), outs := [(0, .p (GXc.q u7i.1) [])] }, {}, {}, {}, { r := some (.v (.agg (GTerm.q u5p.2)) [(3, .app 26)]), outs := [(0, .p (GXc.q u5p.1) [])] }, { r := some (.v (.agg (GTerm.q ual)) [(3, .app 26)]) }, { tk := [46] }] ⟨[tP 4 4], [(4, .cells (GTerm.q ual) [(3, .app 26)]), bC 1000000 (GXc.q u5p.1)], []⟩ (.cons (ih_pQ_l03Made h102) (.cons (ih_pQ_l03Made h103) (.cons (cQ_l03Two h104) .nil))) ?_
                obtain rfl := oInj h; exact Wc.ret dn
              · refine Wc.cF h101 ?_
                apply Wc.seq
                refine Wc.r0 ⟨[tP 0 1000000, tI 1 uv, tP 4 4, tB 47 (u0b == 7)], [(4, .cells GTerm.z [(3, .app 26)]), bC 1000000 (GXc.q vi.1)], []⟩ ?_
                rcases oif h with ⟨h105, h⟩ | ⟨h105, h⟩
                · refine Wc.cT h105 ?_
                  apply Wc.seq
                  obtain ⟨u7j, h106, h⟩ := obind h
                  obtain ⟨u7k, h107, h⟩ := obind h
                  obtain ⟨u5q, h108, h⟩ := obind h
                  obtain ⟨uam, h109, h⟩ := obind h
                  refine Wc.r2 [{}, { c := some (List.map cS [(bs [43]), (bs [61]), (bs [44]), (bs [102]), (bs [59])]) }, { r := some (.v (.str u7j.2) []), outs := [(0, .p (GXc.q u7j.1) [])] }, {}, {}, {}, { r := some (.v (.agg (GTerm.q u7k.2)) [(3, .app 26)]), outs := [(0, .p (GXc.q u7k.1) [])] }, {}, {}, {}, { r := some (.v (.agg (GTerm.q u5q.2)) [(3, .app 26)]), outs := [(0, .p (GXc.q u5q.1) [])] }, { r := some (.v (.agg (GTerm.q uam)) [(3, .app 26)]) }, { tk := [61] }] ⟨[tP 4 4], [(4, .cells (GTerm.q uam) [(3, .app 26)]), bC 1000000 (GXc.q u5q.1)], []⟩ (.cons (cl_cons (c := cS) (x := (bs [43])) rfl (cl_cons (c := cS) (x := (bs [61])) rfl (cl_cons (c := cS) (x := (bs [44])) rfl (cl_cons (c := cS) (x := (bs [102])) rfl (cl_cons (c := cS) (x := (bs [59])) rfl (cl_nil cS)))))) (.cons (cQ_l01Pick h106) (.cons (ih_pQ_l03Made h107) (.cons (ih_pQ_l03Made h108) (.cons (cQ_l03Two h109) .nil))))) ?_
                  obtain rfl := oInj h; exact Wc.ret dn
                · refine Wc.cF h105 ?_
                  refine Wc.fx [] ⟨[tP 0 1000000, tI 1 uv, tP 4 4], [(4, .cells GTerm.z [(3, .app 26)]), bC 1000000 (GXc.q vi.1)], []⟩ ?_
                  refine Wc.skip ?_
                  apply Wc.seq
                  obtain ⟨u3l, h110, h⟩ := obind h
                  refine Wc.r2 [{}, { c := some (List.map cS [(bs [102]), (bs [103]), (bs [45]), (bs [91, 93])]) }, { r := some (.v (.str u3l.2) []), outs := [(0, .p (GXc.q u3l.1) [])] }, {}, {}, { tk := [65] }] ⟨[tP 0 1000000, tI 1 uv, tP 4 4, tP 6 6], [(4, .cells GTerm.z [(3, .app 26)]), (6, .cells [aI 4, .str u3l.2, aI 0, .sl (List.map GTerm.c [])] [(3, .app 26)]), bC 1000000 (GXc.q u3l.1)], []⟩ (.cons (cl_cons (c := cS) (x := (bs [102])) rfl (cl_cons (c := cS) (x := (bs [103])) rfl (cl_cons (c := cS) (x := (bs [45])) rfl (cl_cons (c := cS) (x := (bs [91, 93])) rfl (cl_nil cS))))) (.cons (cQ_l01Pick h110) .nil)) ?_
                  apply Wc.seq
                  apply Wc.seq
                  refine Wc.r0 ⟨[tP 0 1000000, tI 1 uv, tP 4 4, tP 6 6, tI 7 0], [(4, .cells GTerm.z [(3, .app 26)]), (6, .cells [aI 4, .str u3l.2, aI 0, .sl (List.map GTerm.c [])] [(3, .app 26)]), bC 1000000 (GXc.q u3l.1)], []⟩ ?_
                  obtain ⟨out2, h111, h⟩ := obind h
                  refine Wc.lastJ (fun st => ∃ (u5r : GTerm) (u5s : GXc), out2 = .done (u5r, u5s) ∧ st = ⟨[tP 4 4, tP 6 6], [(4, .cells GTerm.z [(3, .app 26)]), (6, .cells (GTerm.q u5r) [(3, .app 26)]), bC 1000000 (GXc.q u5s)], []⟩) ?_ ?_
                  · refine Wc.block ?_
                    refine Wc.loop (fun m st => ∃ (u1e : Int) (vf : GTerm) (u7h : GXc), st = ⟨[tP 0 1000000, tI 1 uv, tP 4 4, tP 6 6, tI 7 u1e], [(4, .cells GTerm.z [(3, .app 26)]), (6, .cells (GTerm.q vf) [(3, .app 26)]), bC 1000000 (GXc.q u7h)], []⟩ ∧ pQ_l03Made_L2 k (pQ_l03Made k) uv m u1e vf u7h = some out2) ?_ k ⟨_, _, _, rfl, h111⟩
                    rintro m st ⟨u1e, vf, u7h, rfl, h111⟩
                    cases m with
                    | zero => exact (onone h111).elim
                    | succ m =>
                      apply Wc.seq
                      apply Wc.seq
                      obtain ⟨u1o, h112, h111⟩ := obind h111
                      refine Wc.r2 [{}, {}, { r := some (.v (aI u1o.2) []), outs := [(0, .p (GXc.q u1o.1) [])] }] ⟨[tP 0 1000000, tI 1 uv, tP 4 4, tP 6 6, tI 7 u1e, tB 70 (decide (u1e < (wr.i64 (1 + u1o.2))))], [(4, .cells GTerm.z [(3, .app 26)]), (6, .cells (GTerm.q vf) [(3, .app 26)]), bC 1000000 (GXc.q u1o.1)], []⟩ (.cons (cQ_l01Below h112) .nil) ?_
                      rcases oif h111 with ⟨h113, h111⟩ | ⟨h113, h111⟩
                      · refine Wc.cT h113 ?_
                        refine Wc.fx [] ⟨[tP 0 1000000, tI 1 uv, tP 4 4, tP 6 6, tI 7 u1e], [(4, .cells GTerm.z [(3, .app 26)]), (6, .cells (GTerm.q vf) [(3, .app 26)]), bC 1000000 (GXc.q u1o.1)], []⟩ ?_
                        refine Wc.skip ?_
                        apply Wc.seq
                        refine Wc.block ?_
                        apply Wc.seq
                        refine Wc.r2 [{}, {}, { v := some (aI (vf.gKids.length : Int)) }] ⟨[tP 0 1000000, tI 1 uv, tP 4 4, tP 6 6, tI 7 u1e, tB 76 (decide ((vf.gKids.length : Int) < 5))], [(4, .cells GTerm.z [(3, .app 26)]), (6, .cells (GTerm.q vf) [(3, .app 26)]), bC 1000000 (GXc.q u1o.1)], []⟩ (.cons (len_obl GTerm.c vf.gKids) .nil) ?_
                        rcases oif h111 with ⟨h114, h111⟩ | ⟨h114, h111⟩
                        · refine Wc.cT h114 ?_
                          obtain ⟨u0i, h115, h111⟩ := obind h111
                          obtain ⟨h116, h111⟩ := oguard h111
                          refine Wc.draw hmix [{}, { md := 1 }, {}, {}, {}, { r := some (.v (.agg (GTerm.q u0i.2)) [(3, .app 26)]), outs := [(0, .p (GXc.q u0i.1) [])] }, { c := some (List.map GTerm.c [u0i.2]) }, { c := some (List.map GTerm.c (vf.gKids ++ [u0i.2])), tk := [78] }, {}, { tk := [84] }] [] [0, 1, 4, 6, 7] [4, 6, 1000000] [] ⟨[tP 0 1000000, tI 1 uv, tP 4 4, tP 6 6, tI 7 u1e], [(4, .cells GTerm.z [(3, .app 26)]), (6, .cells [aI vf.gKind, .str vf.gName, aI vf.gNum, .sl (List.map GTerm.c (vf.gKids ++ [u0i.2]))] [(3, .app 26)]), bC 1000000 (GXc.q u0i.1)], []⟩ _ (by kernel_rfl) (fun X => by kernel_rfl) (.cons (ih_pQ_l03Made h115) (.cons (cl_cons (c := GTerm.c) (x := u0i.2) (GTerm.c_eq u0i.2) (cl_nil GTerm.c)) (.cons (app_re2 GTerm.c vf.gKids [u0i.2]) (.cons (app_leaf (c := GTerm.c) (ys := [u0i.2]) GTerm.c_leaf) (.cons (app_obl2 (c := GTerm.c) (xs := vf.gKids) (ys := [u0i.2]) GTerm.c_len h116) .nil))))) ?_
                          refine Wc.r0 ⟨[tP 0 1000000, tI 1 uv, tP 4 4, tP 6 6, tI 7 (wr.i64 (u1e + 1))], [(4, .cells GTerm.z [(3, .app 26)]), (6, .cells [aI vf.gKind, .str vf.gName, aI vf.gNum, .sl (List.map GTerm.c (vf.gKids ++ [u0i.2]))] [(3, .app 26)]), bC 1000000 (GXc.q u0i.1)], []⟩ ?_
                          exact ⟨_, Nat.lt_succ_self _, _, _, _, rfl, h111⟩
                        · refine Wc.cF h114 ?_
                          refine Wc.fx [] ⟨[tP 0 1000000, tI 1 uv, tP 4 4, tP 6 6, tI 7 u1e], [(4, .cells GTerm.z [(3, .app 26)]), (6, .cells (GTerm.q vf) [(3, .app 26)]), bC 1000000 (GXc.q u1o.1)], []⟩ ?_
                          refine Wc.skip ?_
                          refine Wc.r0 ⟨[tP 0 1000000, tI 1 uv, tP 4 4, tP 6 6, tI 7 (wr.i64 (u1e + 1))], [(4, .cells GTerm.z [(3, .app 26)]), (6, .cells (GTerm.q vf) [(3, .app 26)]), bC 1000000 (GXc.q u1o.1)], []⟩ ?_
                          exact ⟨_, Nat.lt_succ_self _, _, _, _, rfl, h111⟩
                      · refine Wc.cF h113 ?_
                        refine Wc.fx [] ⟨[tP 4 4, tP 6 6], [(4, .cells GTerm.z [(3, .app 26)]), (6, .cells (GTerm.q vf) [(3, .app 26)]), bC 1000000 (GXc.q u1o.1)], []⟩ ?_
                        refine Wc.exit ?_
                        obtain rfl := oInj h111
                        exact ⟨_, _, rfl, rfl⟩
                  · rintro st ⟨u5r, u5s, rfl, rfl⟩
                    apply Wc.seq
                    refine Wc.r1 [{ md := 1 }, { tk := [86] }] ⟨[tP 4 4], [(4, .cells (GTerm.q u5r) [(3, .app 26)]), bC 1000000 (GXc.q u5s)], []⟩ ?_
                    obtain rfl := oInj h; exact Wc.ret dn
theorem cQ_l03Made {k : Nat} {u32 : GXc} {uv : Int} {r : GXc × GTerm} (h : pQ_l03Made k u32 uv = some r) : FnO Tryz.prog 89 [.p (GXc.q u32) [], .v (aI uv) []] (.v (.agg (GTerm.q r.2)) [(3, .app 26)]) [(0, .p (GXc.q r.1) [])] := (all_pQ_l03Made k) h

def pQ_l03Term (k : Nat) (u7l : GXc) : Option (GXc × GTerm) :=
  (pQ_l03Made k u7l 3).bind fun u1f =>
  (pQ_TermOk k u1f.2).bind fun uan =>
  if uan = true then
    some (u1f.1, u1f.2)
  else
    (pQ_l03Atom k (bs [97])).bind fun uao =>
    some (u1f.1, uao)
theorem cQ_l03Term {k : Nat} {u7l : GXc} {r : GXc × GTerm} (h : pQ_l03Term k u7l = some r) : FnO Tryz.prog 40 [.p (GXc.q u7l) []] (.v (.agg (GTerm.q r.2)) [(3, .app 26)]) [(0, .p (GXc.q r.1) [])] := by
  refine FnO.o2 Tryz.func40 (rfl : Tryz.f40.body = some _) ?_
  intro w0 X0 Fin pv0 pb gt
  unfold pQ_l03Term at h
  apply Wc.seq
  refine Wc.r0 ⟨[tP 0 1000000, tP 2 2], [(2, .cells GTerm.z [(3, .app 26)]), bC 1000000 (GXc.q u7l)], []⟩ ?_
  apply Wc.seq
  obtain ⟨u1f, h123, h⟩ := obind h
  refine Wc.r2 [{}, { r := some (.v (.agg (GTerm.q u1f.2)) [(3, .app 26)]), outs := [(0, .p (GXc.q u1f.1) [])] }, {}, { tk := [5] }] ⟨[tP 2 2, tP 3 3], [(2, .cells GTerm.z [(3, .app 26)]), (3, .cells (GTerm.q u1f.2) [(3, .app 26)]), bC 1000000 (GXc.q u1f.1)], []⟩ (.cons (cQ_l03Made h123) .nil) ?_
  apply Wc.seq
  apply Wc.seq
  obtain ⟨uan, h124, h⟩ := obind h
  refine Wc.r2 [{}, { r := some (.v (.bool uan) []) }] ⟨[tP 2 2, tP 3 3, tB 7 uan], [(2, .cells GTerm.z [(3, .app 26)]), (3, .cells (GTerm.q u1f.2) [(3, .app 26)]), bC 1000000 (GXc.q u1f.1)], []⟩ (.cons (cQ_TermOk h124) .nil) ?_
  rcases oif h with ⟨h125, h⟩ | ⟨h125, h⟩
  · refine Wc.cT h125 ?_
    apply Wc.seq
    refine Wc.r1 [{ md := 1 }, { tk := [8] }] ⟨[tP 2 2], [(2, .cells (GTerm.q u1f.2) [(3, .app 26)]), bC 1000000 (GXc.q u1f.1)], []⟩ ?_
    obtain rfl := oInj h; exact Wc.ret dn
  · refine Wc.cF h125 ?_
    refine Wc.fx [] ⟨[tP 2 2], [(2, .cells GTerm.z [(3, .app 26)]), bC 1000000 (GXc.q u1f.1)], []⟩ ?_
    refine Wc.skip ?_
    apply Wc.seq
    obtain ⟨uao, h126, h⟩ := obind h
    refine Wc.r2 [{ r := some (.v (.agg (GTerm.q uao)) [(3, .app 26)]) }, { tk := [9] }] ⟨[tP 2 2], [(2, .cells (GTerm.q uao) [(3, .app 26)]), bC 1000000 (GXc.q u1f.1)], []⟩ (.cons (cQ_l03Atom h126) .nil) ?_
    obtain rfl := oInj h; exact Wc.ret dn

def pQ_l01New_L1 (k : Nat) (vg : List Int) : Nat → Int → Int → Option (Out GXc Int)
  | 0, _, _ => none
  | m + 1, u1p, u1q =>
    if (decide (u1q < (vg.length : Int))) = true then
      if (decide (u1q < 4000)) = true then
        (at' vg u1q).bind fun u5t =>
        pQ_l01New_L1 k vg m (band .i64 (wr.i64 ((wr.i64 ((wr.i64 (u1p * 131)) + (wr.i64 u5t))) + 7)) 1073741823) (wr.i64 (u1q + 1))
      else
        some (.done u1p)
    else
      some (.done u1p)
def pQ_l01New (k : Nat) (vg : List Int) : Option GXc :=
  (pQ_l01New_L1 k vg k (wr.i64 (95101 + (vg.length : Int))) 0).bind fun out1 => match out1 with
  | .ret r => some r
  | .done u5u =>
    some (GXc.mk vg 0 u5u)
theorem cQ_l01New {k : Nat} {vg : List Int} {r : GXc} (h : pQ_l01New k vg = some r) : FnO Tryz.prog 41 [.v (.sl (List.map cI.u8 vg)) []] (.p (GXc.q r) []) [] := by
  refine FnO.o2 Tryz.func41 (rfl : Tryz.f41.body = some _) ?_
  intro w0 X0 Fin pv0 pb gt
  unfold pQ_l01New at h
  apply Wc.seq
  refine Wc.r0 ⟨[tV 0 (.sl (List.map cI.u8 vg))], [], []⟩ ?_
  apply Wc.seq
  refine Wc.r2 [{}, { v := some (aI (vg.length : Int)) }] ⟨[tV 0 (.sl (List.map cI.u8 vg)), tI 3 (wr.i64 (95101 + (vg.length : Int)))], [], []⟩ (.cons (len_obl cI.u8 vg) .nil) ?_
  apply Wc.seq
  apply Wc.seq
  refine Wc.r0 ⟨[tV 0 (.sl (List.map cI.u8 vg)), tI 3 (wr.i64 (95101 + (vg.length : Int))), tI 4 0], [], []⟩ ?_
  obtain ⟨out1, h127, h⟩ := obind h
  refine Wc.lastJ (fun st => ∃ (u5u : Int), out1 = .done u5u ∧ st = ⟨[tV 0 (.sl (List.map cI.u8 vg)), tI 3 u5u], [], []⟩) ?_ ?_
  · refine Wc.block ?_
    refine Wc.loop (fun m st => ∃ (u1p : Int) (u1q : Int), st = ⟨[tV 0 (.sl (List.map cI.u8 vg)), tI 3 u1p, tI 4 u1q], [], []⟩ ∧ pQ_l01New_L1 k vg m u1p u1q = some out1) ?_ k ⟨_, _, rfl, h127⟩
    rintro m st ⟨u1p, u1q, rfl, h127⟩
    cases m with
    | zero => exact (onone h127).elim
    | succ m =>
      apply Wc.seq
      apply Wc.seq
      rcases oif h127 with ⟨h128, h127⟩ | ⟨h128, h127⟩
      · refine Wc.r2 [{}, {}, { v := some (aI (vg.length : Int)) }, {}, { re := some (.bool true) }] ⟨[tV 0 (.sl (List.map cI.u8 vg)), tI 3 u1p, tI 4 u1q, tB 15 (decide (u1q < 4000))], [], []⟩ (.cons (len_obl cI.u8 vg) (.cons (congrArg AV.bool h128) .nil)) ?_
        rcases oif h127 with ⟨h129, h127⟩ | ⟨h129, h127⟩
        · refine Wc.cT h129 ?_
          refine Wc.fx [] ⟨[tV 0 (.sl (List.map cI.u8 vg)), tI 3 u1p, tI 4 u1q], [], []⟩ ?_
          refine Wc.skip ?_
          apply Wc.seq
          refine Wc.block ?_
          obtain ⟨u5t, h130, h127⟩ := obind h127
          refine Wc.r2 [{}, {}, {}, {}, { v := some (.vptr [.int .u8 u5t]) }] ⟨[tV 0 (.sl (List.map cI.u8 vg)), tI 3 (band .i64 (wr.i64 ((wr.i64 ((wr.i64 (u1p * 131)) + (wr.i64 u5t))) + 7)) 1073741823), tI 4 u1q], [], []⟩ (.cons (at_obl (c := cI.u8) rfl cI.u8_len h130) (.cons (len_ok 1 [.int .u8 u5t]) .nil)) ?_
          refine Wc.r0 ⟨[tV 0 (.sl (List.map cI.u8 vg)), tI 3 (band .i64 (wr.i64 ((wr.i64 ((wr.i64 (u1p * 131)) + (wr.i64 u5t))) + 7)) 1073741823), tI 4 (wr.i64 (u1q + 1))], [], []⟩ ?_
          exact ⟨_, Nat.lt_succ_self _, _, _, rfl, h127⟩
        · refine Wc.cF h129 ?_
          refine Wc.fx [] ⟨[tV 0 (.sl (List.map cI.u8 vg)), tI 3 u1p], [], []⟩ ?_
          refine Wc.exit ?_
          obtain rfl := oInj h127
          exact ⟨_, rfl, rfl⟩
      · refine Wc.r2 [{}, {}, { v := some (aI (vg.length : Int)) }, {}, { re := some (.bool false) }] ⟨[tV 0 (.sl (List.map cI.u8 vg)), tI 3 u1p, tI 4 u1q, tB 15 false], [], []⟩ (.cons (len_obl cI.u8 vg) (.cons (congrArg AV.bool h128) .nil)) ?_
        refine Wc.cF rfl ?_
        refine Wc.fx [] ⟨[tV 0 (.sl (List.map cI.u8 vg)), tI 3 u1p], [], []⟩ ?_
        refine Wc.exit ?_
        obtain rfl := oInj h127
        exact ⟨_, rfl, rfl⟩
  · rintro st ⟨u5u, rfl, rfl⟩
    apply Wc.seq
    refine Wc.r0 ⟨[tP 2 31], [bC 31 [.sl (List.map cI.u8 vg), aI 0, aI u5u]], []⟩ ?_
    obtain rfl := oInj h; exact Wc.ret dn

def pQ_DrawTerm (k : Nat) (u7m : List Int) : Option GTerm :=
  (pQ_l01New k u7m).bind fun uct =>
  (pQ_l03Term k uct).bind fun u7n =>
  some u7n.2
theorem cQ_DrawTerm {k : Nat} {u7m : List Int} {r : GTerm} (h : pQ_DrawTerm k u7m = some r) : FnO Tryz.prog 9 [.v (.sl (List.map cI.u8 u7m)) []] (.v (.agg (GTerm.q r)) [(3, .app 26)]) [] := by
  refine FnO.o2 Tryz.func9 (rfl : Tryz.f9.body = some _) ?_
  intro w0 X0 Fin pv0 pb gt
  unfold pQ_DrawTerm at h
  apply Wc.seq
  refine Wc.r0 ⟨[tV 0 (.sl (List.map cI.u8 u7m)), tP 2 2], [(2, .cells GTerm.z [(3, .app 26)])], []⟩ ?_
  apply Wc.seq
  obtain ⟨uct, h133, h⟩ := obind h
  obtain ⟨u7n, h134, h⟩ := obind h
  refine Wc.r2 [{}, { r := some (.p (GXc.q uct) []) }, { r := some (.v (.agg (GTerm.q u7n.2)) [(3, .app 26)]), outs := [(0, .p (GXc.q u7n.1) [])] }, { tk := [5] }] ⟨[tP 2 2], [(2, .cells (GTerm.q u7n.2) [(3, .app 26)])], []⟩ (.cons (cQ_l01New h133) (.cons (cQ_l03Term h134) .nil)) ?_
  obtain rfl := oInj h; exact Wc.ret dn

def pU_within (k : Nat) (u4o : Int) (u7o : Int) (u5v : Int) : Option Bool :=
  if (decide (u4o ≥ u7o)) = true then
    some (decide (u4o ≤ u5v))
  else
    some false
theorem cU_within {k : Nat} {u4o : Int} {u7o : Int} {u5v : Int} {r : Bool} (h : pU_within k u4o u7o u5v = some r) : FnO Tryz.prog 150 [.v (aI u4o) [], .v (aI u7o) [], .v (aI u5v) []] (.v (.bool r) []) [] := by
  refine FnO.o2 Tryz.func150 (rfl : Tryz.f150.body = some _) ?_
  intro w0 X0 Fin pv0 pb gt
  unfold pU_within at h
  apply Wc.seq
  refine Wc.r0 ⟨[tI 0 u4o, tI 1 u7o, tI 2 u5v], [], []⟩ ?_
  apply Wc.seq
  rcases oif h with ⟨h135, h⟩ | ⟨h135, h⟩
  · refine Wc.r2 [{}, {}, {}, { re := some (.bool true) }] ⟨[tB 6 (decide (u4o ≤ u5v))], [], []⟩ (.cons (congrArg AV.bool h135) .nil) ?_
    obtain rfl := oInj h; exact Wc.ret dn
  · refine Wc.r2 [{}, {}, {}, { re := some (.bool false) }] ⟨[tB 6 false], [], []⟩ (.cons (congrArg AV.bool h135) .nil) ?_
    obtain rfl := oInj h; exact Wc.ret dn

def pU_nameOk_L1 (k : Nat) (vo : ByteArray) : Nat → Int → Option (Out Bool Unit)
  | 0, _ => none
  | m + 1, zi =>
    if (decide (zi < (vo.size : Int))) = true then
      if 0 ≤ zi ∧ (zi).toNat < vo.size then
        (pU_within k (wr.i64 (bt vo zi)) 33 126).bind fun u7p =>
        if (!u7p) = true then
          some (.ret false)
        else
          if 0 ≤ zi ∧ (zi).toNat < vo.size then
            if ((bt vo zi) == 39) = true then
              some (.ret false)
            else
              if 0 ≤ zi ∧ (zi).toNat < vo.size then
                if ((bt vo zi) == 34) = true then
                  some (.ret false)
                else
                  pU_nameOk_L1 k vo m (wr.i64 (zi + 1))
              else none
          else none
      else none
    else
      some (.done ())
def pU_nameOk (k : Nat) (vo : ByteArray) : Option Bool :=
  (pU_nameOk_L1 k vo k 0).bind fun out1 => match out1 with
  | .ret r => some r
  | .done () =>
    (pU_within k (vo.size : Int) 1 20).bind fun uap =>
    some uap
theorem cU_nameOk {k : Nat} {vo : ByteArray} {r : Bool} (h : pU_nameOk k vo = some r) : FnO Tryz.prog 151 [.v (.str vo) []] (.v (.bool r) []) [] := by
  refine FnO.o2 Tryz.func151 (rfl : Tryz.f151.body = some _) ?_
  intro w0 X0 Fin pv0 pb gt
  unfold pU_nameOk at h
  apply Wc.seq
  refine Wc.r0 ⟨[tS 0 vo], [], []⟩ ?_
  apply Wc.seq
  apply Wc.seq
  refine Wc.r0 ⟨[tS 0 vo, tI 3 0], [], []⟩ ?_
  obtain ⟨out1, h136, h⟩ := obind h
  refine Wc.lastJ (fun st => out1 = .done () ∧ st = ⟨[tS 0 vo], [], []⟩) ?_ ?_
  · refine Wc.block ?_
    refine Wc.loop (fun m st => ∃ (zi : Int), st = ⟨[tS 0 vo, tI 3 zi], [], []⟩ ∧ pU_nameOk_L1 k vo m zi = some out1) ?_ k ⟨_, rfl, h136⟩
    rintro m st ⟨zi, rfl, h136⟩
    cases m with
    | zero => exact (onone h136).elim
    | succ m =>
      apply Wc.seq
      apply Wc.seq
      refine Wc.r0 ⟨[tS 0 vo, tI 3 zi, tB 7 (decide (zi < (vo.size : Int)))], [], []⟩ ?_
      rcases oif h136 with ⟨h137, h136⟩ | ⟨h137, h136⟩
      · refine Wc.cT h137 ?_
        refine Wc.fx [] ⟨[tS 0 vo, tI 3 zi], [], []⟩ ?_
        refine Wc.skip ?_
        apply Wc.seq
        refine Wc.block ?_
        apply Wc.seq
        obtain ⟨h138, h136⟩ := oguard h136
        obtain ⟨u7p, h139, h136⟩ := obind h136
        rcases oif h136 with ⟨h140, h136⟩ | ⟨h140, h136⟩
        · refine Wc.r2 [{}, {}, {}, {}, { r := some (.v (.bool u7p) []) }, {}, { re := some (.bool true) }] ⟨[tS 0 vo, tI 3 zi, tB 27 true], [], []⟩ (.cons h138 (.cons (cU_within h139) (.cons (congrArg AV.bool h140) .nil))) ?_
          refine Wc.cT rfl ?_
          apply Wc.seq
          refine Wc.r0 ⟨[tB 2 false], [], []⟩ ?_
          refine Wc.ret ?_
          obtain rfl := oInj h136
          obtain rfl := oInj h
          exact ⟨.inl rfl, by kernel_rfl, by kernel_rfl⟩
        · obtain ⟨h141, h136⟩ := oguard h136
          rcases oif h136 with ⟨h142, h136⟩ | ⟨h142, h136⟩
          · refine Wc.r2 [{}, {}, {}, {}, { r := some (.v (.bool u7p) []) }, {}, { re := some (.bool false) }, {}, {}, {}, {}, {}, { re := some (.bool true) }] ⟨[tS 0 vo, tI 3 zi, tB 27 true], [], []⟩ (.cons h138 (.cons (cU_within h139) (.cons (congrArg AV.bool h140) (.cons h141 (.cons (congrArg AV.bool h142) .nil))))) ?_
            refine Wc.cT rfl ?_
            apply Wc.seq
            refine Wc.r0 ⟨[tB 2 false], [], []⟩ ?_
            refine Wc.ret ?_
            obtain rfl := oInj h136
            obtain rfl := oInj h
            exact ⟨.inl rfl, by kernel_rfl, by kernel_rfl⟩
          · obtain ⟨h143, h136⟩ := oguard h136
            refine Wc.r2 [{}, {}, {}, {}, { r := some (.v (.bool u7p) []) }, {}, { re := some (.bool false) }, {}, {}, {}, {}, {}, { re := some (.bool false) }] ⟨[tS 0 vo, tI 3 zi, tB 27 ((bt vo zi) == 34)], [], []⟩ (.cons h138 (.cons (cU_within h139) (.cons (congrArg AV.bool h140) (.cons h141 (.cons (congrArg AV.bool h142) (.cons h143 .nil)))))) ?_
            rcases oif h136 with ⟨h144, h136⟩ | ⟨h144, h136⟩
            · refine Wc.cT h144 ?_
              apply Wc.seq
              refine Wc.r0 ⟨[tB 2 false], [], []⟩ ?_
              refine Wc.ret ?_
              obtain rfl := oInj h136
              obtain rfl := oInj h
              exact ⟨.inl rfl, by kernel_rfl, by kernel_rfl⟩
            · refine Wc.cF h144 ?_
              refine Wc.fx [] ⟨[tS 0 vo, tI 3 zi], [], []⟩ ?_
              refine Wc.skip ?_
              refine Wc.r0 ⟨[tS 0 vo, tI 3 (wr.i64 (zi + 1))], [], []⟩ ?_
              exact ⟨_, Nat.lt_succ_self _, _, rfl, h136⟩
      · refine Wc.cF h137 ?_
        refine Wc.fx [] ⟨[tS 0 vo], [], []⟩ ?_
        refine Wc.exit ?_
        obtain rfl := oInj h136
        exact ⟨rfl, rfl⟩
  · rintro st ⟨rfl, rfl⟩
    apply Wc.seq
    obtain ⟨uap, h145, h⟩ := obind h
    refine Wc.r2 [{}, {}, { r := some (.v (.bool uap) []) }] ⟨[tB 2 uap], [], []⟩ (.cons (cU_within h145) .nil) ?_
    obtain rfl := oInj h; exact Wc.ret dn

def pU_sized_L2 (k : Nat) (rimpl_sized : GTerm → Int → Option Int) (ua : GTerm) (um : Int) : Nat → Int → Int → Option (Out Int Int)
  | 0, _, _ => none
  | m + 1, u0u, u1g =>
    if (decide (u1g < (ua.gKids.length : Int))) = true then
      (at' ua.gKids u1g).bind fun u5w =>
      (rimpl_sized u5w (wr.i64 (um + 1))).bind fun u3m =>
      if (decide ((wr.i64 (u0u + u3m)) > 400)) = true then
        some (.ret 401)
      else
        pU_sized_L2 k rimpl_sized ua um m (wr.i64 (u0u + u3m)) (wr.i64 (u1g + 1))
    else
      some (.done u0u)
def pU_sized_J1 (k : Nat) (rimpl_sized : GTerm → Int → Option Int) (ua : GTerm) (um : Int) : Option Int :=
  (pU_sized_L2 k rimpl_sized ua um k 1 0).bind fun out2 => match out2 with
  | .ret r => some r
  | .done u5x =>
    some u5x
mutual
def pU_sized : Nat → GTerm → Int → Option Int
  | 0, _, _ => none
  | k + 1, ua, um =>
    if (decide (um > 40)) = true then
      some 401
    else
      if (ua.gKind == 1) = true then
        if (!(sEq ua.gName (bs []))) = true then
          some 401
        else
          (pU_within k ua.gNum 0 99999).bind fun uaq =>
          if (!uaq) = true then
            some 401
          else
            if (decide ((ua.gKids.length : Int) > 0)) = true then
              some 401
            else
              pU_sized_J1 k (pU_sized k) ua um
      else
        if (ua.gKind == 2) = true then
          (pU_nameOk k ua.gName).bind fun u7q =>
          if (!u7q) = true then
            some 401
          else
            if (ua.gNum != 0) = true then
              some 401
            else
              if (decide ((ua.gKids.length : Int) > 0)) = true then
                some 401
              else
                pU_sized_J1 k (pU_sized k) ua um
        else
          if (ua.gKind == 3) = true then
            if (!(sEq ua.gName (bs []))) = true then
              some 401
            else
              (pU_within k ua.gNum (-999999999) 999999999).bind fun uar =>
              if (!uar) = true then
                some 401
              else
                if (decide ((ua.gKids.length : Int) > 0)) = true then
                  some 401
                else
                  pU_sized_J1 k (pU_sized k) ua um
          else
            if (ua.gKind == 4) = true then
              (pU_nameOk k ua.gName).bind fun u7r =>
              if (!u7r) = true then
                some 401
              else
                if (ua.gNum != 0) = true then
                  some 401
                else
                  (pU_within k (ua.gKids.length : Int) 1 5).bind fun uas =>
                  if (!uas) = true then
                    some 401
                  else
                    pU_sized_J1 k (pU_sized k) ua um
            else
              some 401
end
set_option maxHeartbeats 4000000 in
theorem all_pU_sized : ∀ k : Nat, (∀ {ua : GTerm} {um : Int} {r : Int}, pU_sized k ua um = some r → FnO Tryz.prog 91 [.v (.agg (GTerm.q ua)) [], .v (aI um) []] (.v (aI r) []) []) := by
  intro k
  induction k with
  | zero =>
    · intro ua um r h
      exact (onone (by rw [pU_sized] at h; exact h)).elim
  | succ k ih =>
    have ih_pU_sized := @ih
    · intro ua um r h
      rw [pU_sized] at h
      refine FnO.o2 Tryz.func91 (rfl : Tryz.f91.body = some _) ?_
      intro w0 X0 Fin pv0 pb gt
      apply Wc.seq
      refine Wc.r0 ⟨[tI 1 um, tP 2 2], [bC 2 (GTerm.q ua)], []⟩ ?_
      apply Wc.seq
      apply Wc.seq
      refine Wc.r0 ⟨[tI 1 um, tP 2 2, tB 9 (decide (um > 40))], [bC 2 (GTerm.q ua)], []⟩ ?_
      rcases oif h with ⟨h146, h⟩ | ⟨h146, h⟩
      · refine Wc.cT h146 ?_
        apply Wc.seq
        refine Wc.r0 ⟨[tI 4 401], [], []⟩ ?_
        obtain rfl := oInj h; exact Wc.ret dn
      · refine Wc.cF h146 ?_
        refine Wc.fx [] ⟨[tI 1 um, tP 2 2], [bC 2 (GTerm.q ua)], []⟩ ?_
        refine Wc.skip ?_
        refine Wc.seqJ (fun st => st = ⟨[tI 1 um, tP 2 2], [bC 2 (GTerm.q ua)], []⟩ ∧ pU_sized_J1 k (pU_sized k) ua um = some r) ?_ ?_
        · apply Wc.seq
          refine Wc.r0 ⟨[tI 1 um, tP 2 2, tI 11 ua.gKind], [bC 2 (GTerm.q ua)], []⟩ ?_
          refine Wc.block ?_
          apply Wc.seq
          refine Wc.r0 ⟨[tI 1 um, tP 2 2, tI 11 ua.gKind, tB 12 (ua.gKind == 1)], [bC 2 (GTerm.q ua)], []⟩ ?_
          rcases oif h with ⟨h152, h⟩ | ⟨h152, h⟩
          · refine Wc.cT h152 ?_
            apply Wc.seq
            rcases oif h with ⟨h153, h⟩ | ⟨h153, h⟩
            · refine Wc.r2 [{}, {}, {}, { re := some (.bool true) }] ⟨[tI 1 um, tP 2 2, tB 28 true], [bC 2 (GTerm.q ua)], []⟩ (.cons (congrArg AV.bool h153) .nil) ?_
              refine Wc.cT rfl ?_
              apply Wc.seq
              refine Wc.r0 ⟨[tI 4 401], [], []⟩ ?_
              obtain rfl := oInj h; exact Wc.ret dn
            · obtain ⟨uaq, h154, h⟩ := obind h
              rcases oif h with ⟨h155, h⟩ | ⟨h155, h⟩
              · refine Wc.r2 [{}, {}, {}, { re := some (.bool false) }, {}, {}, { r := some (.v (.bool uaq) []) }, {}, {}, { re := some (.bool true) }] ⟨[tI 1 um, tP 2 2, tB 28 true], [bC 2 (GTerm.q ua)], []⟩ (.cons (congrArg AV.bool h153) (.cons (cU_within h154) (.cons (congrArg AV.bool h155) .nil))) ?_
                refine Wc.cT rfl ?_
                apply Wc.seq
                refine Wc.r0 ⟨[tI 4 401], [], []⟩ ?_
                obtain rfl := oInj h; exact Wc.ret dn
              · refine Wc.r2 [{}, {}, {}, { re := some (.bool false) }, {}, {}, { r := some (.v (.bool uaq) []) }, {}, {}, { re := some (.bool false) }, {}, {}, { v := some (aI (ua.gKids.length : Int)) }] ⟨[tI 1 um, tP 2 2, tB 28 (decide ((ua.gKids.length : Int) > 0))], [bC 2 (GTerm.q ua)], []⟩ (.cons (congrArg AV.bool h153) (.cons (cU_within h154) (.cons (congrArg AV.bool h155) (.cons (len_obl GTerm.c ua.gKids) .nil)))) ?_
                rcases oif h with ⟨h156, h⟩ | ⟨h156, h⟩
                · refine Wc.cT h156 ?_
                  apply Wc.seq
                  refine Wc.r0 ⟨[tI 4 401], [], []⟩ ?_
                  obtain rfl := oInj h; exact Wc.ret dn
                · refine Wc.cF h156 ?_
                  refine Wc.fx [] ⟨[tI 1 um, tP 2 2], [bC 2 (GTerm.q ua)], []⟩ ?_
                  refine Wc.skip ?_
                  exact ⟨rfl, h⟩
          · refine Wc.cF h152 ?_
            apply Wc.seq
            refine Wc.r0 ⟨[tI 1 um, tP 2 2, tI 11 ua.gKind, tB 29 (ua.gKind == 2)], [bC 2 (GTerm.q ua)], []⟩ ?_
            rcases oif h with ⟨h157, h⟩ | ⟨h157, h⟩
            · refine Wc.cT h157 ?_
              apply Wc.seq
              obtain ⟨u7q, h158, h⟩ := obind h
              rcases oif h with ⟨h159, h⟩ | ⟨h159, h⟩
              · refine Wc.r2 [{}, {}, { r := some (.v (.bool u7q) []) }, {}, { re := some (.bool true) }] ⟨[tI 1 um, tP 2 2, tB 45 true], [bC 2 (GTerm.q ua)], []⟩ (.cons (cU_nameOk h158) (.cons (congrArg AV.bool h159) .nil)) ?_
                refine Wc.cT rfl ?_
                apply Wc.seq
                refine Wc.r0 ⟨[tI 4 401], [], []⟩ ?_
                obtain rfl := oInj h; exact Wc.ret dn
              · rcases oif h with ⟨h160, h⟩ | ⟨h160, h⟩
                · refine Wc.r2 [{}, {}, { r := some (.v (.bool u7q) []) }, {}, { re := some (.bool false) }, {}, {}, {}, {}, { re := some (.bool true) }] ⟨[tI 1 um, tP 2 2, tB 45 true], [bC 2 (GTerm.q ua)], []⟩ (.cons (cU_nameOk h158) (.cons (congrArg AV.bool h159) (.cons (congrArg AV.bool h160) .nil))) ?_
                  refine Wc.cT rfl ?_
                  apply Wc.seq
                  refine Wc.r0 ⟨[tI 4 401], [], []⟩ ?_
                  obtain rfl := oInj h; exact Wc.ret dn
                · refine Wc.r2 [{}, {}, { r := some (.v (.bool u7q) []) }, {}, { re := some (.bool false) }, {}, {}, {}, {}, { re := some (.bool false) }, {}, {}, { v := some (aI (ua.gKids.length : Int)) }] ⟨[tI 1 um, tP 2 2, tB 45 (decide ((ua.gKids.length : Int) > 0))], [bC 2 (GTerm.q ua)], []⟩ (.cons (cU_nameOk h158) (.cons (congrArg AV.bool h159) (.cons (congrArg AV.bool h160) (.cons (len_obl GTerm.c ua.gKids) .nil)))) ?_
                  rcases oif h with ⟨h161, h⟩ | ⟨h161, h⟩
                  · refine Wc.cT h161 ?_
                    apply Wc.seq
                    refine Wc.r0 ⟨[tI 4 401], [], []⟩ ?_
                    obtain rfl := oInj h; exact Wc.ret dn
                  · refine Wc.cF h161 ?_
                    refine Wc.fx [] ⟨[tI 1 um, tP 2 2], [bC 2 (GTerm.q ua)], []⟩ ?_
                    refine Wc.skip ?_
                    exact ⟨rfl, h⟩
            · refine Wc.cF h157 ?_
              apply Wc.seq
              refine Wc.r0 ⟨[tI 1 um, tP 2 2, tI 11 ua.gKind, tB 46 (ua.gKind == 3)], [bC 2 (GTerm.q ua)], []⟩ ?_
              rcases oif h with ⟨h162, h⟩ | ⟨h162, h⟩
              · refine Wc.cT h162 ?_
                apply Wc.seq
                rcases oif h with ⟨h163, h⟩ | ⟨h163, h⟩
                · refine Wc.r2 [{}, {}, {}, { re := some (.bool true) }] ⟨[tI 1 um, tP 2 2, tB 62 true], [bC 2 (GTerm.q ua)], []⟩ (.cons (congrArg AV.bool h163) .nil) ?_
                  refine Wc.cT rfl ?_
                  apply Wc.seq
                  refine Wc.r0 ⟨[tI 4 401], [], []⟩ ?_
                  obtain rfl := oInj h; exact Wc.ret dn
                · obtain ⟨uar, h164, h⟩ := obind h
                  rcases oif h with ⟨h165, h⟩ | ⟨h165, h⟩
                  · refine Wc.r2 [{}, {}, {}, { re := some (.bool false) }, {}, {}, { r := some (.v (.bool uar) []) }, {}, {}, { re := some (.bool true) }] ⟨[tI 1 um, tP 2 2, tB 62 true], [bC 2 (GTerm.q ua)], []⟩ (.cons (congrArg AV.bool h163) (.cons (cU_within h164) (.cons (congrArg AV.bool h165) .nil))) ?_
                    refine Wc.cT rfl ?_
                    apply Wc.seq
                    refine Wc.r0 ⟨[tI 4 401], [], []⟩ ?_
                    obtain rfl := oInj h; exact Wc.ret dn
                  · refine Wc.r2 [{}, {}, {}, { re := some (.bool false) }, {}, {}, { r := some (.v (.bool uar) []) }, {}, {}, { re := some (.bool false) }, {}, {}, { v := some (aI (ua.gKids.length : Int)) }] ⟨[tI 1 um, tP 2 2, tB 62 (decide ((ua.gKids.length : Int) > 0))], [bC 2 (GTerm.q ua)], []⟩ (.cons (congrArg AV.bool h163) (.cons (cU_within h164) (.cons (congrArg AV.bool h165) (.cons (len_obl GTerm.c ua.gKids) .nil)))) ?_
                    rcases oif h with ⟨h166, h⟩ | ⟨h166, h⟩
                    · refine Wc.cT h166 ?_
                      apply Wc.seq
                      refine Wc.r0 ⟨[tI 4 401], [], []⟩ ?_
                      obtain rfl := oInj h; exact Wc.ret dn
                    · refine Wc.cF h166 ?_
                      refine Wc.fx [] ⟨[tI 1 um, tP 2 2], [bC 2 (GTerm.q ua)], []⟩ ?_
                      refine Wc.skip ?_
                      exact ⟨rfl, h⟩
              · refine Wc.cF h162 ?_
                apply Wc.seq
                refine Wc.r0 ⟨[tI 1 um, tP 2 2, tB 63 (ua.gKind == 4)], [bC 2 (GTerm.q ua)], []⟩ ?_
                rcases oif h with ⟨h167, h⟩ | ⟨h167, h⟩
                · refine Wc.cT h167 ?_
                  apply Wc.seq
                  obtain ⟨u7r, h168, h⟩ := obind h
                  rcases oif h with ⟨h169, h⟩ | ⟨h169, h⟩
                  · refine Wc.r2 [{}, {}, { r := some (.v (.bool u7r) []) }, {}, { re := some (.bool true) }] ⟨[tI 1 um, tP 2 2, tB 80 true], [bC 2 (GTerm.q ua)], []⟩ (.cons (cU_nameOk h168) (.cons (congrArg AV.bool h169) .nil)) ?_
                    refine Wc.cT rfl ?_
                    apply Wc.seq
                    refine Wc.r0 ⟨[tI 4 401], [], []⟩ ?_
                    obtain rfl := oInj h; exact Wc.ret dn
                  · rcases oif h with ⟨h170, h⟩ | ⟨h170, h⟩
                    · refine Wc.r2 [{}, {}, { r := some (.v (.bool u7r) []) }, {}, { re := some (.bool false) }, {}, {}, {}, {}, { re := some (.bool true) }] ⟨[tI 1 um, tP 2 2, tB 80 true], [bC 2 (GTerm.q ua)], []⟩ (.cons (cU_nameOk h168) (.cons (congrArg AV.bool h169) (.cons (congrArg AV.bool h170) .nil))) ?_
                      refine Wc.cT rfl ?_
                      apply Wc.seq
                      refine Wc.r0 ⟨[tI 4 401], [], []⟩ ?_
                      obtain rfl := oInj h; exact Wc.ret dn
                    · obtain ⟨uas, h171, h⟩ := obind h
                      refine Wc.r2 [{}, {}, { r := some (.v (.bool u7r) []) }, {}, { re := some (.bool false) }, {}, {}, {}, {}, { re := some (.bool false) }, {}, {}, { v := some (aI (ua.gKids.length : Int)) }, { r := some (.v (.bool uas) []) }] ⟨[tI 1 um, tP 2 2, tB 80 (!uas)], [bC 2 (GTerm.q ua)], []⟩ (.cons (cU_nameOk h168) (.cons (congrArg AV.bool h169) (.cons (congrArg AV.bool h170) (.cons (len_obl GTerm.c ua.gKids) (.cons (cU_within h171) .nil))))) ?_
                      rcases oif h with ⟨h172, h⟩ | ⟨h172, h⟩
                      · refine Wc.cT h172 ?_
                        apply Wc.seq
                        refine Wc.r0 ⟨[tI 4 401], [], []⟩ ?_
                        obtain rfl := oInj h; exact Wc.ret dn
                      · refine Wc.cF h172 ?_
                        refine Wc.fx [] ⟨[tI 1 um, tP 2 2], [bC 2 (GTerm.q ua)], []⟩ ?_
                        refine Wc.skip ?_
                        exact ⟨rfl, h⟩
                · refine Wc.cF h167 ?_
                  apply Wc.seq
                  refine Wc.r0 ⟨[tI 4 401], [], []⟩ ?_
                  obtain rfl := oInj h; exact Wc.ret dn
        · rintro st ⟨rfl, h⟩
          apply Wc.seq
          refine Wc.r0 ⟨[tI 1 um, tP 2 2, tI 5 1], [bC 2 (GTerm.q ua)], []⟩ ?_
          apply Wc.seq
          apply Wc.seq
          refine Wc.r2 [{}, {}, { v := some (aI (ua.gKids.length : Int)) }] ⟨[tI 1 um, tI 5 1, tV 82 (.sl (List.map GTerm.c ua.gKids)), tI 83 (ua.gKids.length : Int), tI 84 0], [], []⟩ (.cons (len_obl GTerm.c ua.gKids) .nil) ?_
          obtain ⟨out2, h147, h⟩ := obind h
          refine Wc.lastJ (fun st => ∃ (u5x : Int), out2 = .done u5x ∧ st = ⟨[tI 5 u5x], [], []⟩) ?_ ?_
          · refine Wc.block ?_
            refine Wc.loop (fun m st => ∃ (u0u : Int) (u1g : Int), st = ⟨[tI 1 um, tI 5 u0u, tV 82 (.sl (List.map GTerm.c ua.gKids)), tI 83 (ua.gKids.length : Int), tI 84 u1g], [], []⟩ ∧ pU_sized_L2 k (pU_sized k) ua um m u0u u1g = some out2) ?_ k ⟨_, _, rfl, h147⟩
            rintro m st ⟨u0u, u1g, rfl, h147⟩
            cases m with
            | zero => exact (onone h147).elim
            | succ m =>
              apply Wc.seq
              refine Wc.r0 ⟨[tI 1 um, tI 5 u0u, tV 82 (.sl (List.map GTerm.c ua.gKids)), tI 83 (ua.gKids.length : Int), tI 84 u1g, tB 85 (decide (u1g < (ua.gKids.length : Int)))], [], []⟩ ?_
              apply Wc.seq
              rcases oif h147 with ⟨h148, h147⟩ | ⟨h148, h147⟩
              · refine Wc.cT h148 ?_
                refine Wc.fx [] ⟨[tI 1 um, tI 5 u0u, tV 82 (.sl (List.map GTerm.c ua.gKids)), tI 83 (ua.gKids.length : Int), tI 84 u1g], [], []⟩ ?_
                refine Wc.skip ?_
                apply Wc.seq
                refine Wc.block ?_
                apply Wc.seq
                obtain ⟨u5w, h149, h147⟩ := obind h147
                refine Wc.r2 [{ v := some (.vptr (GTerm.q u5w)) }] ⟨[tI 1 um, tI 5 u0u, tP 7 7, tV 82 (.sl (List.map GTerm.c ua.gKids)), tI 83 (ua.gKids.length : Int), tI 84 u1g], [bC 7 (GTerm.q u5w)], []⟩ (.cons (at_obl (c := GTerm.c) (GTerm.c_eq u5w) GTerm.c_len h149) (.cons (len_ok 4 (GTerm.q u5w)) .nil)) ?_
                apply Wc.seq
                obtain ⟨u3m, h150, h147⟩ := obind h147
                refine Wc.r2 [{}, {}, {}, {}, { r := some (.v (aI u3m) []) }] ⟨[tI 1 um, tI 5 (wr.i64 (u0u + u3m)), tV 82 (.sl (List.map GTerm.c ua.gKids)), tI 83 (ua.gKids.length : Int), tI 84 u1g], [], []⟩ (.cons (ih_pU_sized h150) .nil) ?_
                apply Wc.seq
                refine Wc.r0 ⟨[tI 1 um, tI 5 (wr.i64 (u0u + u3m)), tV 82 (.sl (List.map GTerm.c ua.gKids)), tI 83 (ua.gKids.length : Int), tI 84 u1g, tB 95 (decide ((wr.i64 (u0u + u3m)) > 400))], [], []⟩ ?_
                rcases oif h147 with ⟨h151, h147⟩ | ⟨h151, h147⟩
                · refine Wc.cT h151 ?_
                  apply Wc.seq
                  refine Wc.r0 ⟨[tI 4 401], [], []⟩ ?_
                  refine Wc.ret ?_
                  obtain rfl := oInj h147
                  obtain rfl := oInj h
                  exact ⟨.inl rfl, by kernel_rfl, by kernel_rfl⟩
                · refine Wc.cF h151 ?_
                  refine Wc.fx [] ⟨[tI 1 um, tI 5 (wr.i64 (u0u + u3m)), tV 82 (.sl (List.map GTerm.c ua.gKids)), tI 83 (ua.gKids.length : Int), tI 84 u1g], [], []⟩ ?_
                  refine Wc.skip ?_
                  refine Wc.r0 ⟨[tI 1 um, tI 5 (wr.i64 (u0u + u3m)), tV 82 (.sl (List.map GTerm.c ua.gKids)), tI 83 (ua.gKids.length : Int), tI 84 (wr.i64 (u1g + 1))], [], []⟩ ?_
                  exact ⟨_, Nat.lt_succ_self _, _, _, rfl, h147⟩
              · refine Wc.cF h148 ?_
                refine Wc.fx [] ⟨[tI 5 u0u], [], []⟩ ?_
                refine Wc.exit ?_
                obtain rfl := oInj h147
                exact ⟨_, rfl, rfl⟩
          · rintro st ⟨u5x, rfl, rfl⟩
            apply Wc.seq
            refine Wc.r0 ⟨[tI 4 u5x], [], []⟩ ?_
            obtain rfl := oInj h; exact Wc.ret dn
theorem cU_sized {k : Nat} {ua : GTerm} {um : Int} {r : Int} (h : pU_sized k ua um = some r) : FnO Tryz.prog 91 [.v (.agg (GTerm.q ua)) [], .v (aI um) []] (.v (aI r) []) [] := (all_pU_sized k) h

def pU_TermOk (k : Nat) (u7s : GTerm) : Option Bool :=
  (pU_sized k u7s 1).bind fun uat =>
  some (decide (uat ≤ 400))
theorem cU_TermOk {k : Nat} {u7s : GTerm} {r : Bool} (h : pU_TermOk k u7s = some r) : FnO Tryz.prog 42 [.v (.agg (GTerm.q u7s)) []] (.v (.bool r) []) [] := by
  refine FnO.o2 Tryz.func42 (rfl : Tryz.f42.body = some _) ?_
  intro w0 X0 Fin pv0 pb gt
  unfold pU_TermOk at h
  apply Wc.seq
  refine Wc.r0 ⟨[tP 1 1], [bC 1 (GTerm.q u7s)], []⟩ ?_
  apply Wc.seq
  obtain ⟨uat, h173, h⟩ := obind h
  refine Wc.r2 [{}, { r := some (.v (aI uat) []) }] ⟨[tB 2 (decide (uat ≤ 400))], [], []⟩ (.cons (cU_sized h173) .nil) ?_
  obtain rfl := oInj h; exact Wc.ret dn

def pU_SignsOf_1 (k : Nat) (u5y : Int) : Option Bool :=
  some (u5y != 10)
theorem cU_SignsOf_1 {k : Nat} {u5y : Int} {r : Bool} (h : pU_SignsOf_1 k u5y = some r) : FnO Tryz.prog 110 [.v (.int .u8 u5y) []] (.v (.bool r) []) [] := by
  refine FnO.o2 Tryz.func110 (rfl : Tryz.f110.body = some _) ?_
  intro w0 X0 Fin pv0 pb gt
  unfold pU_SignsOf_1 at h
  apply Wc.seq
  refine Wc.r0 ⟨[tV 0 (.int .u8 u5y)], [], []⟩ ?_
  apply Wc.seq
  refine Wc.r0 ⟨[tB 2 (u5y != 10)], [], []⟩ ?_
  obtain rfl := oInj h; exact Wc.ret dn

def pstrings_IndexByte (k : Nat) (s : ByteArray) (c : Int) : Option Int :=
  some (Lib.indexByte s.data.toList c.toNat.toUInt8)
theorem cstrings_IndexByte {k : Nat} {s : ByteArray} {c r : Int} (h : pstrings_IndexByte k s c = some r) : FnO Tryz.prog 176 [.v (.str s) [], .v (.int .u8 c) []] (.v (aI r) []) [] := indexByte_O Tryz.strings_IndexByte h

def pU_SymbolByte (k : Nat) (u7t : Int) : Option Bool :=
  (pstrings_IndexByte k (bs [43, 45, 42, 47, 92, 94, 60, 62, 61, 126, 58, 46, 63, 64, 35, 38, 36]) u7t).bind fun uau =>
  some (decide (uau ≥ 0))
theorem cU_SymbolByte {k : Nat} {u7t : Int} {r : Bool} (h : pU_SymbolByte k u7t = some r) : FnO Tryz.prog 175 [.v (.int .u8 u7t) []] (.v (.bool r) []) [] := by
  refine FnO.o2 Tryz.func175 (rfl : Tryz.f175.body = some _) ?_
  intro w0 X0 Fin pv0 pb gt
  unfold pU_SymbolByte at h
  apply Wc.seq
  refine Wc.r0 ⟨[tV 0 (.int .u8 u7t)], [], []⟩ ?_
  apply Wc.seq
  obtain ⟨uau, h174, h⟩ := obind h
  refine Wc.r2 [{}, { r := some (.v (aI uau) []) }] ⟨[tB 2 (decide (uau ≥ 0))], [], []⟩ (.cons (cstrings_IndexByte h174) .nil) ?_
  obtain rfl := oInj h; exact Wc.ret dn

def pU_endsHere_J1 (k : Nat) (zd : Int) (zy : ByteArray) : Option Bool :=
  if ((wr.i64 (zd + 1)) == (zy.size : Int)) = true then
    some true
  else
    if 0 ≤ wr.i64 (zd + 1) ∧ (wr.i64 (zd + 1)).toNat < zy.size then
      (pstrings_IndexByte k (bs [32, 9, 10, 37]) (bt zy (wr.i64 (zd + 1)))).bind fun uav =>
      some (decide (uav ≥ 0))
    else none
def pU_endsHere (k : Nat) (zy : ByteArray) (zd : Int) : Option Bool :=
  if 0 ≤ zd ∧ (zd).toNat < zy.size then
    if ((bt zy zd) != 46) = true then
      some false
    else
      if (decide (zd > 0)) = true then
        if 0 ≤ wr.i64 (zd - 1) ∧ (wr.i64 (zd - 1)).toNat < zy.size then
          (pU_SymbolByte k (bt zy (wr.i64 (zd - 1)))).bind fun uaw =>
          if uaw = true then
            some false
          else
            pU_endsHere_J1 k zd zy
        else none
      else
        pU_endsHere_J1 k zd zy
  else none
theorem cU_endsHere {k : Nat} {zy : ByteArray} {zd : Int} {r : Bool} (h : pU_endsHere k zy zd = some r) : FnO Tryz.prog 170 [.v (.str zy) [], .v (aI zd) []] (.v (.bool r) []) [] := by
  refine FnO.o2 Tryz.func170 (rfl : Tryz.f170.body = some _) ?_
  intro w0 X0 Fin pv0 pb gt
  unfold pU_endsHere at h
  apply Wc.seq
  refine Wc.r0 ⟨[tS 0 zy, tI 1 zd], [], []⟩ ?_
  refine Wc.seqJ (fun st => st = ⟨[tS 0 zy, tI 1 zd], [], []⟩ ∧ pU_endsHere_J1 k zd zy = some r) ?_ ?_
  · apply Wc.seq
    obtain ⟨h178, h⟩ := oguard h
    rcases oif h with ⟨h179, h⟩ | ⟨h179, h⟩
    · refine Wc.r2 [{}, {}, {}, {}, { re := some (.bool true) }] ⟨[tS 0 zy, tI 1 zd, tB 19 true], [], []⟩ (.cons h178 (.cons (congrArg AV.bool h179) .nil)) ?_
      refine Wc.cT rfl ?_
      apply Wc.seq
      refine Wc.r0 ⟨[tB 4 false], [], []⟩ ?_
      obtain rfl := oInj h; exact Wc.ret dn
    · rcases oif h with ⟨h180, h⟩ | ⟨h180, h⟩
      · obtain ⟨h181, h⟩ := oguard h
        obtain ⟨uaw, h182, h⟩ := obind h
        refine Wc.r2 [{}, {}, {}, {}, { re := some (.bool false) }, {}, {}, { re := some (.bool true) }, {}, {}, {}, {}, { r := some (.v (.bool uaw) []) }] ⟨[tS 0 zy, tI 1 zd, tB 19 uaw], [], []⟩ (.cons h178 (.cons (congrArg AV.bool h179) (.cons (congrArg AV.bool h180) (.cons h181 (.cons (cU_SymbolByte h182) .nil))))) ?_
        rcases oif h with ⟨h183, h⟩ | ⟨h183, h⟩
        · refine Wc.cT h183 ?_
          apply Wc.seq
          refine Wc.r0 ⟨[tB 4 false], [], []⟩ ?_
          obtain rfl := oInj h; exact Wc.ret dn
        · refine Wc.cF h183 ?_
          refine Wc.fx [] ⟨[tS 0 zy, tI 1 zd], [], []⟩ ?_
          refine Wc.skip ?_
          exact ⟨rfl, h⟩
      · refine Wc.r2 [{}, {}, {}, {}, { re := some (.bool false) }, {}, {}, { re := some (.bool false) }] ⟨[tS 0 zy, tI 1 zd, tB 19 false], [], []⟩ (.cons h178 (.cons (congrArg AV.bool h179) (.cons (congrArg AV.bool h180) .nil))) ?_
        refine Wc.cF rfl ?_
        refine Wc.fx [] ⟨[tS 0 zy, tI 1 zd], [], []⟩ ?_
        refine Wc.skip ?_
        exact ⟨rfl, h⟩
  · rintro st ⟨rfl, h⟩
    apply Wc.seq
    rcases oif h with ⟨h175, h⟩ | ⟨h175, h⟩
    · refine Wc.r2 [{}, {}, {}, {}, {}, { re := some (.bool true) }] ⟨[tB 4 true], [], []⟩ (.cons (congrArg AV.bool h175) .nil) ?_
      obtain rfl := oInj h; exact Wc.ret dn
    · obtain ⟨h176, h⟩ := oguard h
      obtain ⟨uav, h177, h⟩ := obind h
      refine Wc.r2 [{}, {}, {}, {}, {}, { re := some (.bool false) }, {}, {}, {}, {}, { r := some (.v (aI uav) []) }] ⟨[tB 4 (decide (uav ≥ 0))], [], []⟩ (.cons (congrArg AV.bool h175) (.cons h176 (.cons (cstrings_IndexByte h177) .nil))) ?_
      obtain rfl := oInj h; exact Wc.ret dn

def pU_lower (k : Nat) (u4p : Int) : Option Bool :=
  if (decide (u4p ≥ 97)) = true then
    some (decide (u4p ≤ 122))
  else
    some false
theorem cU_lower {k : Nat} {u4p : Int} {r : Bool} (h : pU_lower k u4p = some r) : FnO Tryz.prog 171 [.v (.int .u8 u4p) []] (.v (.bool r) []) [] := by
  refine FnO.o2 Tryz.func171 (rfl : Tryz.f171.body = some _) ?_
  intro w0 X0 Fin pv0 pb gt
  unfold pU_lower at h
  apply Wc.seq
  refine Wc.r0 ⟨[tV 0 (.int .u8 u4p)], [], []⟩ ?_
  apply Wc.seq
  rcases oif h with ⟨h184, h⟩ | ⟨h184, h⟩
  · refine Wc.r2 [{}, {}, { re := some (.bool true) }] ⟨[tB 2 (decide (u4p ≤ 122))], [], []⟩ (.cons (congrArg AV.bool h184) .nil) ?_
    obtain rfl := oInj h; exact Wc.ret dn
  · refine Wc.r2 [{}, {}, { re := some (.bool false) }] ⟨[tB 2 false], [], []⟩ (.cons (congrArg AV.bool h184) .nil) ?_
    obtain rfl := oInj h; exact Wc.ret dn

def pU_upper (k : Nat) (u4q : Int) : Option Bool :=
  if (decide (u4q ≥ 65)) = true then
    some (decide (u4q ≤ 90))
  else
    some false
theorem cU_upper {k : Nat} {u4q : Int} {r : Bool} (h : pU_upper k u4q = some r) : FnO Tryz.prog 172 [.v (.int .u8 u4q) []] (.v (.bool r) []) [] := by
  refine FnO.o2 Tryz.func172 (rfl : Tryz.f172.body = some _) ?_
  intro w0 X0 Fin pv0 pb gt
  unfold pU_upper at h
  apply Wc.seq
  refine Wc.r0 ⟨[tV 0 (.int .u8 u4q)], [], []⟩ ?_
  apply Wc.seq
  rcases oif h with ⟨h185, h⟩ | ⟨h185, h⟩
  · refine Wc.r2 [{}, {}, { re := some (.bool true) }] ⟨[tB 2 (decide (u4q ≤ 90))], [], []⟩ (.cons (congrArg AV.bool h185) .nil) ?_
    obtain rfl := oInj h; exact Wc.ret dn
  · refine Wc.r2 [{}, {}, { re := some (.bool false) }] ⟨[tB 2 false], [], []⟩ (.cons (congrArg AV.bool h185) .nil) ?_
    obtain rfl := oInj h; exact Wc.ret dn

def pU_figure (k : Nat) (u4r : Int) : Option Bool :=
  if (decide (u4r ≥ 48)) = true then
    some (decide (u4r ≤ 57))
  else
    some false
theorem cU_figure {k : Nat} {u4r : Int} {r : Bool} (h : pU_figure k u4r = some r) : FnO Tryz.prog 174 [.v (.int .u8 u4r) []] (.v (.bool r) []) [] := by
  refine FnO.o2 Tryz.func174 (rfl : Tryz.f174.body = some _) ?_
  intro w0 X0 Fin pv0 pb gt
  unfold pU_figure at h
  apply Wc.seq
  refine Wc.r0 ⟨[tV 0 (.int .u8 u4r)], [], []⟩ ?_
  apply Wc.seq
  rcases oif h with ⟨h186, h⟩ | ⟨h186, h⟩
  · refine Wc.r2 [{}, {}, { re := some (.bool true) }] ⟨[tB 2 (decide (u4r ≤ 57))], [], []⟩ (.cons (congrArg AV.bool h186) .nil) ?_
    obtain rfl := oInj h; exact Wc.ret dn
  · refine Wc.r2 [{}, {}, { re := some (.bool false) }] ⟨[tB 2 false], [], []⟩ (.cons (congrArg AV.bool h186) .nil) ?_
    obtain rfl := oInj h; exact Wc.ret dn

def pU_wordByte (k : Nat) (u3n : Int) : Option Bool :=
  (pU_lower k u3n).bind fun u5z =>
  if u5z = true then
    some true
  else
    (pU_upper k u3n).bind fun u7u =>
    if u7u = true then
      some true
    else
      (pU_figure k u3n).bind fun uax =>
      if uax = true then
        some true
      else
        some (u3n == 95)
theorem cU_wordByte {k : Nat} {u3n : Int} {r : Bool} (h : pU_wordByte k u3n = some r) : FnO Tryz.prog 173 [.v (.int .u8 u3n) []] (.v (.bool r) []) [] := by
  refine FnO.o2 Tryz.func173 (rfl : Tryz.f173.body = some _) ?_
  intro w0 X0 Fin pv0 pb gt
  unfold pU_wordByte at h
  apply Wc.seq
  refine Wc.r0 ⟨[tV 0 (.int .u8 u3n)], [], []⟩ ?_
  apply Wc.seq
  obtain ⟨u5z, h187, h⟩ := obind h
  rcases oif h with ⟨h188, h⟩ | ⟨h188, h⟩
  · refine Wc.r2 [{}, { r := some (.v (.bool u5z) []) }, { re := some (.bool true) }] ⟨[tB 2 true], [], []⟩ (.cons (cU_lower h187) (.cons (congrArg AV.bool h188) .nil)) ?_
    obtain rfl := oInj h; exact Wc.ret dn
  · obtain ⟨u7u, h189, h⟩ := obind h
    rcases oif h with ⟨h190, h⟩ | ⟨h190, h⟩
    · refine Wc.r2 [{}, { r := some (.v (.bool u5z) []) }, { re := some (.bool false) }, {}, { r := some (.v (.bool u7u) []) }, {}, { re := some (.bool true) }] ⟨[tB 2 true], [], []⟩ (.cons (cU_lower h187) (.cons (congrArg AV.bool h188) (.cons (cU_upper h189) (.cons (congrArg AV.bool h190) .nil)))) ?_
      obtain rfl := oInj h; exact Wc.ret dn
    · obtain ⟨uax, h191, h⟩ := obind h
      rcases oif h with ⟨h192, h⟩ | ⟨h192, h⟩
      · refine Wc.r2 [{}, { r := some (.v (.bool u5z) []) }, { re := some (.bool false) }, {}, { r := some (.v (.bool u7u) []) }, {}, { re := some (.bool false) }, {}, { r := some (.v (.bool uax) []) }, {}, { re := some (.bool true) }] ⟨[tB 2 true], [], []⟩ (.cons (cU_lower h187) (.cons (congrArg AV.bool h188) (.cons (cU_upper h189) (.cons (congrArg AV.bool h190) (.cons (cU_figure h191) (.cons (congrArg AV.bool h192) .nil)))))) ?_
        obtain rfl := oInj h; exact Wc.ret dn
      · refine Wc.r2 [{}, { r := some (.v (.bool u5z) []) }, { re := some (.bool false) }, {}, { r := some (.v (.bool u7u) []) }, {}, { re := some (.bool false) }, {}, { r := some (.v (.bool uax) []) }, {}, { re := some (.bool false) }] ⟨[tB 2 (u3n == 95)], [], []⟩ (.cons (cU_lower h187) (.cons (congrArg AV.bool h188) (.cons (cU_upper h189) (.cons (congrArg AV.bool h190) (.cons (cU_figure h191) (.cons (congrArg AV.bool h192) .nil)))))) ?_
        obtain rfl := oInj h; exact Wc.ret dn

def pU_nextSign_1 (k : Nat) (u43 : Int) : Option Bool :=
  (pU_within k (wr.i64 u43) 33 126).bind fun u7v =>
  if u7v = true then
    if (u43 != 39) = true then
      some (u43 != 34)
    else
      some false
  else
    some false
theorem cU_nextSign_1 {k : Nat} {u43 : Int} {r : Bool} (h : pU_nextSign_1 k u43 = some r) : FnO Tryz.prog 177 [.v (.int .u8 u43) []] (.v (.bool r) []) [] := by
  refine FnO.o2 Tryz.func177 (rfl : Tryz.f177.body = some _) ?_
  intro w0 X0 Fin pv0 pb gt
  unfold pU_nextSign_1 at h
  apply Wc.seq
  refine Wc.r0 ⟨[tV 0 (.int .u8 u43)], [], []⟩ ?_
  apply Wc.seq
  obtain ⟨u7v, h193, h⟩ := obind h
  rcases oif h with ⟨h194, h⟩ | ⟨h194, h⟩
  · rcases oif h with ⟨h195, h⟩ | ⟨h195, h⟩
    · refine Wc.r2 [{}, {}, { r := some (.v (.bool u7v) []) }, { re := some (.bool true) }, {}, {}, {}, { re := some (.bool true) }] ⟨[tB 2 (u43 != 34)], [], []⟩ (.cons (cU_within h193) (.cons (congrArg AV.bool h194) (.cons (congrArg AV.bool h195) .nil))) ?_
      obtain rfl := oInj h; exact Wc.ret dn
    · refine Wc.r2 [{}, {}, { r := some (.v (.bool u7v) []) }, { re := some (.bool true) }, {}, {}, {}, { re := some (.bool false) }] ⟨[tB 2 false], [], []⟩ (.cons (cU_within h193) (.cons (congrArg AV.bool h194) (.cons (congrArg AV.bool h195) .nil))) ?_
      obtain rfl := oInj h; exact Wc.ret dn
  · refine Wc.r2 [{}, {}, { r := some (.v (.bool u7v) []) }, { re := some (.bool false) }] ⟨[tB 2 false], [], []⟩ (.cons (cU_within h193) (.cons (congrArg AV.bool h194) .nil)) ?_
    obtain rfl := oInj h; exact Wc.ret dn

def pU_run_on2_pU_wordByte_L1 (k : Nat) (u0v : ByteArray) : Nat → Int → Option (Out Int Int)
  | 0, _ => none
  | m + 1, u0j =>
    if (decide (u0j < (u0v.size : Int))) = true then
      if 0 ≤ u0j ∧ (u0j).toNat < u0v.size then
        (pU_wordByte k (bt u0v u0j)).bind fun u3o =>
        if u3o = true then
          pU_run_on2_pU_wordByte_L1 k u0v m (wr.i64 (u0j + 1))
        else
          some (.done u0j)
      else none
    else
      some (.done u0j)
def pU_run_on2_pU_wordByte (k : Nat) (u0v : ByteArray) (u7w : Int) : Option Int :=
  (pU_run_on2_pU_wordByte_L1 k u0v k u7w).bind fun out1 => match out1 with
  | .ret r => some r
  | .done u0w =>
    some u0w
theorem cU_run_on2_pU_wordByte {k : Nat} {u0v : ByteArray} {u7w : Int} {r : Int} (h : pU_run_on2_pU_wordByte k u0v u7w = some r) : FnO Tryz.prog 109 [.v (.str u0v) [], .v (aI u7w) [], .v (.func 173 []) []] (.v (aI r) []) [] := by
  refine FnO.o2 Tryz.func109 (rfl : Tryz.f109.body = some _) ?_
  intro w0 X0 Fin pv0 pb gt
  unfold pU_run_on2_pU_wordByte at h
  apply Wc.seq
  refine Wc.r0 ⟨[tS 0 u0v, tI 1 u7w, tV 2 (.func 173 [])], [], []⟩ ?_
  obtain ⟨out1, h200, h⟩ := obind h
  refine Wc.seqJ (fun st => ∃ (u0w : Int), out1 = .done u0w ∧ st = ⟨[tI 1 u0w], [], []⟩) ?_ ?_
  · refine Wc.block ?_
    refine Wc.loop (fun m st => ∃ (u0j : Int), st = ⟨[tS 0 u0v, tI 1 u0j, tV 2 (.func 173 [])], [], []⟩ ∧ pU_run_on2_pU_wordByte_L1 k u0v m u0j = some out1) ?_ k ⟨_, rfl, h200⟩
    rintro m st ⟨u0j, rfl, h200⟩
    cases m with
    | zero => exact (onone h200).elim
    | succ m =>
      apply Wc.seq
      apply Wc.seq
      rcases oif h200 with ⟨h201, h200⟩ | ⟨h201, h200⟩
      · obtain ⟨h202, h200⟩ := oguard h200
        obtain ⟨u3o, h203, h200⟩ := obind h200
        refine Wc.r2 [{}, {}, {}, {}, { re := some (.bool true) }, {}, {}, {}, {}, { r := some (.v (.bool u3o) []) }] ⟨[tS 0 u0v, tI 1 u0j, tV 2 (.func 173 []), tB 17 u3o], [], []⟩ (.cons (congrArg AV.bool h201) (.cons h202 (.cons (cU_wordByte h203) .nil))) ?_
        rcases oif h200 with ⟨h204, h200⟩ | ⟨h204, h200⟩
        · refine Wc.cT h204 ?_
          refine Wc.fx [] ⟨[tS 0 u0v, tI 1 u0j, tV 2 (.func 173 [])], [], []⟩ ?_
          refine Wc.skip ?_
          refine Wc.block ?_
          refine Wc.r0 ⟨[tS 0 u0v, tI 1 (wr.i64 (u0j + 1)), tV 2 (.func 173 [])], [], []⟩ ?_
          exact ⟨_, Nat.lt_succ_self _, _, rfl, h200⟩
        · refine Wc.cF h204 ?_
          refine Wc.fx [] ⟨[tI 1 u0j], [], []⟩ ?_
          refine Wc.exit ?_
          obtain rfl := oInj h200
          exact ⟨_, rfl, rfl⟩
      · refine Wc.r2 [{}, {}, {}, {}, { re := some (.bool false) }] ⟨[tS 0 u0v, tI 1 u0j, tV 2 (.func 173 []), tB 17 false], [], []⟩ (.cons (congrArg AV.bool h201) .nil) ?_
        refine Wc.cF rfl ?_
        refine Wc.fx [] ⟨[tI 1 u0j], [], []⟩ ?_
        refine Wc.exit ?_
        obtain rfl := oInj h200
        exact ⟨_, rfl, rfl⟩
  · rintro st ⟨u0w, rfl, rfl⟩
    apply Wc.seq
    refine Wc.r0 ⟨[tI 6 u0w], [], []⟩ ?_
    obtain rfl := oInj h; exact Wc.ret dn

def pU_run_on2_pU_figure_L1 (k : Nat) (u0x : ByteArray) : Nat → Int → Option (Out Int Int)
  | 0, _ => none
  | m + 1, u0k =>
    if (decide (u0k < (u0x.size : Int))) = true then
      if 0 ≤ u0k ∧ (u0k).toNat < u0x.size then
        (pU_figure k (bt u0x u0k)).bind fun uay =>
        if uay = true then
          pU_run_on2_pU_figure_L1 k u0x m (wr.i64 (u0k + 1))
        else
          some (.done u0k)
      else none
    else
      some (.done u0k)
def pU_run_on2_pU_figure (k : Nat) (u0x : ByteArray) (u7x : Int) : Option Int :=
  (pU_run_on2_pU_figure_L1 k u0x k u7x).bind fun out1 => match out1 with
  | .ret r => some r
  | .done vh =>
    some vh
theorem cU_run_on2_pU_figure {k : Nat} {u0x : ByteArray} {u7x : Int} {r : Int} (h : pU_run_on2_pU_figure k u0x u7x = some r) : FnO Tryz.prog 109 [.v (.str u0x) [], .v (aI u7x) [], .v (.func 174 []) []] (.v (aI r) []) [] := by
  refine FnO.o2 Tryz.func109 (rfl : Tryz.f109.body = some _) ?_
  intro w0 X0 Fin pv0 pb gt
  unfold pU_run_on2_pU_figure at h
  apply Wc.seq
  refine Wc.r0 ⟨[tS 0 u0x, tI 1 u7x, tV 2 (.func 174 [])], [], []⟩ ?_
  obtain ⟨out1, h205, h⟩ := obind h
  refine Wc.seqJ (fun st => ∃ (vh : Int), out1 = .done vh ∧ st = ⟨[tI 1 vh], [], []⟩) ?_ ?_
  · refine Wc.block ?_
    refine Wc.loop (fun m st => ∃ (u0k : Int), st = ⟨[tS 0 u0x, tI 1 u0k, tV 2 (.func 174 [])], [], []⟩ ∧ pU_run_on2_pU_figure_L1 k u0x m u0k = some out1) ?_ k ⟨_, rfl, h205⟩
    rintro m st ⟨u0k, rfl, h205⟩
    cases m with
    | zero => exact (onone h205).elim
    | succ m =>
      apply Wc.seq
      apply Wc.seq
      rcases oif h205 with ⟨h206, h205⟩ | ⟨h206, h205⟩
      · obtain ⟨h207, h205⟩ := oguard h205
        obtain ⟨uay, h208, h205⟩ := obind h205
        refine Wc.r2 [{}, {}, {}, {}, { re := some (.bool true) }, {}, {}, {}, {}, { r := some (.v (.bool uay) []) }] ⟨[tS 0 u0x, tI 1 u0k, tV 2 (.func 174 []), tB 17 uay], [], []⟩ (.cons (congrArg AV.bool h206) (.cons h207 (.cons (cU_figure h208) .nil))) ?_
        rcases oif h205 with ⟨h209, h205⟩ | ⟨h209, h205⟩
        · refine Wc.cT h209 ?_
          refine Wc.fx [] ⟨[tS 0 u0x, tI 1 u0k, tV 2 (.func 174 [])], [], []⟩ ?_
          refine Wc.skip ?_
          refine Wc.block ?_
          refine Wc.r0 ⟨[tS 0 u0x, tI 1 (wr.i64 (u0k + 1)), tV 2 (.func 174 [])], [], []⟩ ?_
          exact ⟨_, Nat.lt_succ_self _, _, rfl, h205⟩
        · refine Wc.cF h209 ?_
          refine Wc.fx [] ⟨[tI 1 u0k], [], []⟩ ?_
          refine Wc.exit ?_
          obtain rfl := oInj h205
          exact ⟨_, rfl, rfl⟩
      · refine Wc.r2 [{}, {}, {}, {}, { re := some (.bool false) }] ⟨[tS 0 u0x, tI 1 u0k, tV 2 (.func 174 []), tB 17 false], [], []⟩ (.cons (congrArg AV.bool h206) .nil) ?_
        refine Wc.cF rfl ?_
        refine Wc.fx [] ⟨[tI 1 u0k], [], []⟩ ?_
        refine Wc.exit ?_
        obtain rfl := oInj h205
        exact ⟨_, rfl, rfl⟩
  · rintro st ⟨vh, rfl, rfl⟩
    apply Wc.seq
    refine Wc.r0 ⟨[tI 6 vh], [], []⟩ ?_
    obtain rfl := oInj h; exact Wc.ret dn

def pU_run_on2_pU_SymbolByte_L1 (k : Nat) (u0y : ByteArray) : Nat → Int → Option (Out Int Int)
  | 0, _ => none
  | m + 1, u0l =>
    if (decide (u0l < (u0y.size : Int))) = true then
      if 0 ≤ u0l ∧ (u0l).toNat < u0y.size then
        (pU_SymbolByte k (bt u0y u0l)).bind fun u33 =>
        if u33 = true then
          pU_run_on2_pU_SymbolByte_L1 k u0y m (wr.i64 (u0l + 1))
        else
          some (.done u0l)
      else none
    else
      some (.done u0l)
def pU_run_on2_pU_SymbolByte (k : Nat) (u0y : ByteArray) (u0z : Int) : Option Int :=
  (pU_run_on2_pU_SymbolByte_L1 k u0y k u0z).bind fun out1 => match out1 with
  | .ret r => some r
  | .done u29 =>
    some u29
theorem cU_run_on2_pU_SymbolByte {k : Nat} {u0y : ByteArray} {u0z : Int} {r : Int} (h : pU_run_on2_pU_SymbolByte k u0y u0z = some r) : FnO Tryz.prog 109 [.v (.str u0y) [], .v (aI u0z) [], .v (.func 175 []) []] (.v (aI r) []) [] := by
  refine FnO.o2 Tryz.func109 (rfl : Tryz.f109.body = some _) ?_
  intro w0 X0 Fin pv0 pb gt
  unfold pU_run_on2_pU_SymbolByte at h
  apply Wc.seq
  refine Wc.r0 ⟨[tS 0 u0y, tI 1 u0z, tV 2 (.func 175 [])], [], []⟩ ?_
  obtain ⟨out1, h213, h⟩ := obind h
  refine Wc.seqJ (fun st => ∃ (u29 : Int), out1 = .done u29 ∧ st = ⟨[tI 1 u29], [], []⟩) ?_ ?_
  · refine Wc.block ?_
    refine Wc.loop (fun m st => ∃ (u0l : Int), st = ⟨[tS 0 u0y, tI 1 u0l, tV 2 (.func 175 [])], [], []⟩ ∧ pU_run_on2_pU_SymbolByte_L1 k u0y m u0l = some out1) ?_ k ⟨_, rfl, h213⟩
    rintro m st ⟨u0l, rfl, h213⟩
    cases m with
    | zero => exact (onone h213).elim
    | succ m =>
      apply Wc.seq
      apply Wc.seq
      rcases oif h213 with ⟨h214, h213⟩ | ⟨h214, h213⟩
      · obtain ⟨h215, h213⟩ := oguard h213
        obtain ⟨u33, h216, h213⟩ := obind h213
        refine Wc.r2 [{}, {}, {}, {}, { re := some (.bool true) }, {}, {}, {}, {}, { r := some (.v (.bool u33) []) }] ⟨[tS 0 u0y, tI 1 u0l, tV 2 (.func 175 []), tB 17 u33], [], []⟩ (.cons (congrArg AV.bool h214) (.cons h215 (.cons (cU_SymbolByte h216) .nil))) ?_
        rcases oif h213 with ⟨h217, h213⟩ | ⟨h217, h213⟩
        · refine Wc.cT h217 ?_
          refine Wc.fx [] ⟨[tS 0 u0y, tI 1 u0l, tV 2 (.func 175 [])], [], []⟩ ?_
          refine Wc.skip ?_
          refine Wc.block ?_
          refine Wc.r0 ⟨[tS 0 u0y, tI 1 (wr.i64 (u0l + 1)), tV 2 (.func 175 [])], [], []⟩ ?_
          exact ⟨_, Nat.lt_succ_self _, _, rfl, h213⟩
        · refine Wc.cF h217 ?_
          refine Wc.fx [] ⟨[tI 1 u0l], [], []⟩ ?_
          refine Wc.exit ?_
          obtain rfl := oInj h213
          exact ⟨_, rfl, rfl⟩
      · refine Wc.r2 [{}, {}, {}, {}, { re := some (.bool false) }] ⟨[tS 0 u0y, tI 1 u0l, tV 2 (.func 175 []), tB 17 false], [], []⟩ (.cons (congrArg AV.bool h214) .nil) ?_
        refine Wc.cF rfl ?_
        refine Wc.fx [] ⟨[tI 1 u0l], [], []⟩ ?_
        refine Wc.exit ?_
        obtain rfl := oInj h213
        exact ⟨_, rfl, rfl⟩
  · rintro st ⟨u29, rfl, rfl⟩
    apply Wc.seq
    refine Wc.r0 ⟨[tI 6 u29], [], []⟩ ?_
    obtain rfl := oInj h; exact Wc.ret dn

def pU_run_on2_pU_nextSign_1_L1 (k : Nat) (u10 : ByteArray) : Nat → Int → Option (Out Int Int)
  | 0, _ => none
  | m + 1, u0m =>
    if (decide (u0m < (u10.size : Int))) = true then
      if 0 ≤ u0m ∧ (u0m).toNat < u10.size then
        (pU_nextSign_1 k (bt u10 u0m)).bind fun uaz =>
        if uaz = true then
          pU_run_on2_pU_nextSign_1_L1 k u10 m (wr.i64 (u0m + 1))
        else
          some (.done u0m)
      else none
    else
      some (.done u0m)
def pU_run_on2_pU_nextSign_1 (k : Nat) (u10 : ByteArray) (u7y : Int) : Option Int :=
  (pU_run_on2_pU_nextSign_1_L1 k u10 k u7y).bind fun out1 => match out1 with
  | .ret r => some r
  | .done u60 =>
    some u60
theorem cU_run_on2_pU_nextSign_1 {k : Nat} {u10 : ByteArray} {u7y : Int} {r : Int} (h : pU_run_on2_pU_nextSign_1 k u10 u7y = some r) : FnO Tryz.prog 109 [.v (.str u10) [], .v (aI u7y) [], .v (.func 177 []) []] (.v (aI r) []) [] := by
  refine FnO.o2 Tryz.func109 (rfl : Tryz.f109.body = some _) ?_
  intro w0 X0 Fin pv0 pb gt
  unfold pU_run_on2_pU_nextSign_1 at h
  apply Wc.seq
  refine Wc.r0 ⟨[tS 0 u10, tI 1 u7y, tV 2 (.func 177 [])], [], []⟩ ?_
  obtain ⟨out1, h223, h⟩ := obind h
  refine Wc.seqJ (fun st => ∃ (u60 : Int), out1 = .done u60 ∧ st = ⟨[tI 1 u60], [], []⟩) ?_ ?_
  · refine Wc.block ?_
    refine Wc.loop (fun m st => ∃ (u0m : Int), st = ⟨[tS 0 u10, tI 1 u0m, tV 2 (.func 177 [])], [], []⟩ ∧ pU_run_on2_pU_nextSign_1_L1 k u10 m u0m = some out1) ?_ k ⟨_, rfl, h223⟩
    rintro m st ⟨u0m, rfl, h223⟩
    cases m with
    | zero => exact (onone h223).elim
    | succ m =>
      apply Wc.seq
      apply Wc.seq
      rcases oif h223 with ⟨h224, h223⟩ | ⟨h224, h223⟩
      · obtain ⟨h225, h223⟩ := oguard h223
        obtain ⟨uaz, h226, h223⟩ := obind h223
        refine Wc.r2 [{}, {}, {}, {}, { re := some (.bool true) }, {}, {}, {}, {}, { r := some (.v (.bool uaz) []) }] ⟨[tS 0 u10, tI 1 u0m, tV 2 (.func 177 []), tB 17 uaz], [], []⟩ (.cons (congrArg AV.bool h224) (.cons h225 (.cons (cU_nextSign_1 h226) .nil))) ?_
        rcases oif h223 with ⟨h227, h223⟩ | ⟨h227, h223⟩
        · refine Wc.cT h227 ?_
          refine Wc.fx [] ⟨[tS 0 u10, tI 1 u0m, tV 2 (.func 177 [])], [], []⟩ ?_
          refine Wc.skip ?_
          refine Wc.block ?_
          refine Wc.r0 ⟨[tS 0 u10, tI 1 (wr.i64 (u0m + 1)), tV 2 (.func 177 [])], [], []⟩ ?_
          exact ⟨_, Nat.lt_succ_self _, _, rfl, h223⟩
        · refine Wc.cF h227 ?_
          refine Wc.fx [] ⟨[tI 1 u0m], [], []⟩ ?_
          refine Wc.exit ?_
          obtain rfl := oInj h223
          exact ⟨_, rfl, rfl⟩
      · refine Wc.r2 [{}, {}, {}, {}, { re := some (.bool false) }] ⟨[tS 0 u10, tI 1 u0m, tV 2 (.func 177 []), tB 17 false], [], []⟩ (.cons (congrArg AV.bool h224) .nil) ?_
        refine Wc.cF rfl ?_
        refine Wc.fx [] ⟨[tI 1 u0m], [], []⟩ ?_
        refine Wc.exit ?_
        obtain rfl := oInj h223
        exact ⟨_, rfl, rfl⟩
  · rintro st ⟨u60, rfl, rfl⟩
    apply Wc.seq
    refine Wc.r0 ⟨[tI 6 u60], [], []⟩ ?_
    obtain rfl := oInj h; exact Wc.ret dn

def pU_nextSign_J2 (k : Nat) (u1 : Int) (u3 : ByteArray) (un : GSign) (vp : Int) (u7z : Bool) : Option (GSign × Int) :=
  if u7z = true then
    if 0 ≤ u1 ∧ u1 ≤ (wr.i64 (u1 + 1)) ∧ (wr.i64 (u1 + 1)) ≤ (u3.size : Int) then
      some (GSign.mk 6 (u3.extract (u1 : Int).toNat ((wr.i64 (u1 + 1)) : Int).toNat) un.gNum un.gAt un.gNear, wr.i64 (u1 + 1))
    else none
  else
    some (GSign.mk un.gKind (u3.extract (u1 : Int).toNat (vp : Int).toNat) un.gNum un.gAt un.gNear, vp)
def pU_nextSign_J1 (k : Nat) (u1 : Int) (u3 : ByteArray) (vp : Int) (un : GSign) : Option (GSign × Int) :=
  if 0 ≤ u1 ∧ u1 ≤ vp ∧ vp ≤ (u3.size : Int) then
    if (un.gKind == 0) = true then
      pU_nextSign_J2 k u1 u3 un vp true
    else
      if (un.gKind != 4) = true then
        pU_nextSign_J2 k u1 u3 un vp (decide (((u3.extract (u1 : Int).toNat (vp : Int).toNat).size : Int) > 20))
      else
        pU_nextSign_J2 k u1 u3 un vp false
  else none
def pU_nextSign_L4 (k : Nat) (vh : Int) (u3 : ByteArray) : Nat → Int → Int → Option (Out (GSign × Int) Int)
  | 0, _, _ => none
  | m + 1, u11, u12 =>
    if (decide (u12 < vh)) = true then
      if (decide (u11 ≤ 999999999)) = true then
        if 0 ≤ u12 ∧ (u12).toNat < u3.size then
          pU_nextSign_L4 k vh u3 m (wr.i64 ((wr.i64 (10 * u11)) + (wr.i64 (wr.u8 ((bt u3 u12) - 48))))) (wr.i64 (u12 + 1))
        else none
      else
        some (.done u11)
    else
      some (.done u11)
def pU_nextSign_J6 (k : Nat) (u1 : Int) (ze : Int) (u3 : ByteArray) (u80 : Bool) : Option (GSign × Int) :=
  if u80 = true then
    if 0 ≤ (wr.i64 (u1 + 1)) ∧ (wr.i64 (u1 + 1)) ≤ ze ∧ ze ≤ (u3.size : Int) then
      some (GSign.mk 1 (u3.extract ((wr.i64 (u1 + 1)) : Int).toNat (ze : Int).toNat) 0 u1 false, wr.i64 (ze + 1))
    else none
  else
    pU_nextSign_J1 k u1 u3 (wr.i64 (u1 + 1)) (GSign.mk 0 (bs []) 0 u1 false)
def pU_nextSign_J5 (k : Nat) (u1 : Int) (u3 : ByteArray) (u33 : Bool) : Option (GSign × Int) :=
  if u33 = true then
    pU_nextSign_J1 k u1 u3 (wr.i64 (u1 + 1)) (GSign.mk 1 (bs []) 0 u1 false)
  else
    (pstrings_IndexByte k (bs [40, 41, 91, 93, 44, 124]) (bt u3 u1)).bind fun ub0 =>
    if (decide (ub0 ≥ 0)) = true then
      pU_nextSign_J1 k u1 u3 (wr.i64 (u1 + 1)) (GSign.mk 4 (bs []) 0 u1 false)
    else
      if ((bt u3 u1) == 39) = true then
        (pU_run_on2_pU_nextSign_1 k u3 (wr.i64 (u1 + 1))).bind fun ze =>
        if (decide (ze < (u3.size : Int))) = true then
          if 0 ≤ ze ∧ (ze).toNat < u3.size then
            if ((bt u3 ze) == 39) = true then
              (pU_within k (wr.i64 ((wr.i64 (ze - u1)) - 1)) 1 20).bind fun ub1 =>
              pU_nextSign_J6 k u1 ze u3 ub1
            else
              pU_nextSign_J6 k u1 ze u3 false
          else none
        else
          pU_nextSign_J6 k u1 ze u3 false
      else
        pU_nextSign_J1 k u1 u3 (wr.i64 (u1 + 1)) (GSign.mk 0 (bs []) 0 u1 false)
def pU_nextSign_J3 (k : Nat) (u3 : ByteArray) (u1 : Int) (u81 : Bool) : Option (GSign × Int) :=
  if u81 = true then
    (pU_run_on2_pU_wordByte k u3 u1).bind fun u0w =>
    (pU_lower k (bt u3 u1)).bind fun u3o =>
    if u3o = true then
      pU_nextSign_J1 k u1 u3 u0w (GSign.mk 1 (bs []) 0 u1 false)
    else
      pU_nextSign_J1 k u1 u3 u0w (GSign.mk 2 (bs []) 0 u1 false)
  else
    (pU_figure k (bt u3 u1)).bind fun ub2 =>
    if ub2 = true then
      (pU_run_on2_pU_figure k u3 u1).bind fun vh =>
      (pU_nextSign_L4 k vh u3 k 0 u1).bind fun out4 => match out4 with
      | .ret r => some r
      | .done u0z =>
        if (decide (u0z ≤ 999999999)) = true then
          some (GSign.mk 3 (bs []) u0z u1 false, vh)
        else
          pU_nextSign_J1 k u1 u3 vh (GSign.mk 0 (bs []) 0 u1 false)
    else
      (pU_SymbolByte k (bt u3 u1)).bind fun ub3 =>
      if ub3 = true then
        (pU_run_on2_pU_SymbolByte k u3 u1).bind fun u29 =>
        pU_nextSign_J1 k u1 u3 u29 (GSign.mk 1 (bs []) 0 u1 false)
      else
        if ((bt u3 u1) == 33) = true then
          pU_nextSign_J5 k u1 u3 true
        else
          pU_nextSign_J5 k u1 u3 ((bt u3 u1) == 59)
def pU_nextSign (k : Nat) (u3 : ByteArray) (u1 : Int) : Option (GSign × Int) :=
  if 0 ≤ u1 ∧ (u1).toNat < u3.size then
    (pU_endsHere k u3 u1).bind fun ub4 =>
    if ub4 = true then
      some (GSign.mk 5 (bs [46]) 0 u1 false, wr.i64 (u1 + 1))
    else
      (pU_lower k (bt u3 u1)).bind fun u82 =>
      if u82 = true then
        pU_nextSign_J3 k u3 u1 true
      else
        (pU_upper k (bt u3 u1)).bind fun ub5 =>
        if ub5 = true then
          pU_nextSign_J3 k u3 u1 true
        else
          pU_nextSign_J3 k u3 u1 ((bt u3 u1) == 95)
  else none
set_option maxHeartbeats 4000000 in
theorem cU_nextSign {k : Nat} {u3 : ByteArray} {u1 : Int} {r : GSign × Int} (h : pU_nextSign k u3 u1 = some r) : FnO Tryz.prog 111 [.v (.str u3) [], .v (aI u1) []] (.v (.tup [.agg (GSign.q r.1), aI r.2]) []) [] := by
  refine FnO.o2 Tryz.func111 (rfl : Tryz.f111.body = some _) ?_
  intro w0 X0 Fin pv0 pb gt
  unfold pU_nextSign at h
  apply Wc.seq
  refine Wc.r0 ⟨[tS 0 u3, tI 1 u1, tP 4 4], [bC 4 GSign.z], []⟩ ?_
  apply Wc.seq
  obtain ⟨h196, h⟩ := oguard h
  refine Wc.r2 [] ⟨[tS 0 u3, tI 1 u1, tP 4 4, tV 6 (.int .u8 (bt u3 u1))], [bC 4 GSign.z], []⟩ (.cons h196 .nil) ?_
  apply Wc.seq
  refine Wc.r0 ⟨[tS 0 u3, tI 1 u1, tP 4 4, tV 6 (.int .u8 (bt u3 u1)), tP 7 7], [bC 4 GSign.z, bC 7 [aI 0, .str (bs []), aI 0, aI u1, .bool false]], []⟩ ?_
  apply Wc.seq
  refine Wc.r0 ⟨[tS 0 u3, tI 1 u1, tP 4 4, tV 6 (.int .u8 (bt u3 u1)), tP 7 7, tI 8 (wr.i64 (u1 + 1))], [bC 4 GSign.z, bC 7 [aI 0, .str (bs []), aI 0, aI u1, .bool false]], []⟩ ?_
  refine Wc.seqJ (fun st => ∃ (vp : Int) (un : GSign), st = ⟨[tS 0 u3, tI 1 u1, tP 4 4, tP 7 7, tI 8 vp], [bC 4 GSign.z, bC 7 (GSign.q un)], []⟩ ∧ pU_nextSign_J1 k u1 u3 vp un = some r) ?_ ?_
  · refine Wc.block ?_
    apply Wc.seq
    obtain ⟨ub4, h202, h⟩ := obind h
    refine Wc.r2 [{}, {}, { r := some (.v (.bool ub4) []) }] ⟨[tS 0 u3, tI 1 u1, tP 4 4, tV 6 (.int .u8 (bt u3 u1)), tP 7 7, tI 8 (wr.i64 (u1 + 1)), tB 19 ub4], [bC 4 GSign.z, bC 7 [aI 0, .str (bs []), aI 0, aI u1, .bool false]], []⟩ (.cons (cU_endsHere h202) .nil) ?_
    rcases oif h with ⟨h203, h⟩ | ⟨h203, h⟩
    · refine Wc.cT h203 ?_
      apply Wc.seq
      refine Wc.r0 ⟨[tP 4 4, tP 7 7, tI 8 (wr.i64 (u1 + 1))], [bC 4 GSign.z, bC 7 [aI 5, .str (bs [46]), aI 0, aI u1, .bool false]], []⟩ ?_
      apply Wc.seq
      refine Wc.r0 ⟨[tP 4 4, tI 5 (wr.i64 (u1 + 1))], [bC 4 [aI 5, .str (bs [46]), aI 0, aI u1, .bool false]], []⟩ ?_
      obtain rfl := oInj h; exact Wc.ret dn
    · refine Wc.cF h203 ?_
      refine Wc.seqJ (fun st => ∃ (u81 : Bool), st = ⟨[tS 0 u3, tI 1 u1, tP 4 4, tV 6 (.int .u8 (bt u3 u1)), tP 7 7, tI 8 (wr.i64 (u1 + 1)), tB 27 u81], [bC 4 GSign.z, bC 7 [aI 0, .str (bs []), aI 0, aI u1, .bool false]], []⟩ ∧ pU_nextSign_J3 k u3 u1 u81 = some r) ?_ ?_
      · obtain ⟨u82, h231, h⟩ := obind h
        rcases oif h with ⟨h232, h⟩ | ⟨h232, h⟩
        · refine Wc.r2 [{}, { r := some (.v (.bool u82) []) }, { re := some (.bool true) }] ⟨[tS 0 u3, tI 1 u1, tP 4 4, tV 6 (.int .u8 (bt u3 u1)), tP 7 7, tI 8 (wr.i64 (u1 + 1)), tB 27 true], [bC 4 GSign.z, bC 7 [aI 0, .str (bs []), aI 0, aI u1, .bool false]], []⟩ (.cons (cU_lower h231) (.cons (congrArg AV.bool h232) .nil)) ?_
          exact ⟨_, rfl, h⟩
        · obtain ⟨ub5, h233, h⟩ := obind h
          rcases oif h with ⟨h234, h⟩ | ⟨h234, h⟩
          · refine Wc.r2 [{}, { r := some (.v (.bool u82) []) }, { re := some (.bool false) }, {}, { r := some (.v (.bool ub5) []) }, {}, { re := some (.bool true) }] ⟨[tS 0 u3, tI 1 u1, tP 4 4, tV 6 (.int .u8 (bt u3 u1)), tP 7 7, tI 8 (wr.i64 (u1 + 1)), tB 27 true], [bC 4 GSign.z, bC 7 [aI 0, .str (bs []), aI 0, aI u1, .bool false]], []⟩ (.cons (cU_lower h231) (.cons (congrArg AV.bool h232) (.cons (cU_upper h233) (.cons (congrArg AV.bool h234) .nil)))) ?_
            exact ⟨_, rfl, h⟩
          · refine Wc.r2 [{}, { r := some (.v (.bool u82) []) }, { re := some (.bool false) }, {}, { r := some (.v (.bool ub5) []) }, {}, { re := some (.bool false) }] ⟨[tS 0 u3, tI 1 u1, tP 4 4, tV 6 (.int .u8 (bt u3 u1)), tP 7 7, tI 8 (wr.i64 (u1 + 1)), tB 27 ((bt u3 u1) == 95)], [bC 4 GSign.z, bC 7 [aI 0, .str (bs []), aI 0, aI u1, .bool false]], []⟩ (.cons (cU_lower h231) (.cons (congrArg AV.bool h232) (.cons (cU_upper h233) (.cons (congrArg AV.bool h234) .nil)))) ?_
            exact ⟨_, rfl, h⟩
      · rintro st ⟨u81, rfl, h⟩
        rcases oif h with ⟨h204, h⟩ | ⟨h204, h⟩
        · refine Wc.cT h204 ?_
          apply Wc.seq
          obtain ⟨u0w, h205, h⟩ := obind h
          refine Wc.r2 [{}, {}, { r := some (.v (aI u0w) []) }] ⟨[tS 0 u3, tI 1 u1, tP 4 4, tV 6 (.int .u8 (bt u3 u1)), tP 7 7, tI 8 u0w], [bC 4 GSign.z, bC 7 [aI 0, .str (bs []), aI 0, aI u1, .bool false]], []⟩ (.cons (cU_run_on2_pU_wordByte h205) .nil) ?_
          apply Wc.seq
          refine Wc.r0 ⟨[tS 0 u3, tI 1 u1, tP 4 4, tV 6 (.int .u8 (bt u3 u1)), tP 7 7, tI 8 u0w], [bC 4 GSign.z, bC 7 [aI 2, .str (bs []), aI 0, aI u1, .bool false]], []⟩ ?_
          apply Wc.seq
          obtain ⟨u3o, h206, h⟩ := obind h
          refine Wc.r2 [{}, { r := some (.v (.bool u3o) []) }] ⟨[tS 0 u3, tI 1 u1, tP 4 4, tP 7 7, tI 8 u0w, tB 43 u3o], [bC 4 GSign.z, bC 7 [aI 2, .str (bs []), aI 0, aI u1, .bool false]], []⟩ (.cons (cU_lower h206) .nil) ?_
          rcases oif h with ⟨h207, h⟩ | ⟨h207, h⟩
          · refine Wc.cT h207 ?_
            refine Wc.r0 ⟨[tS 0 u3, tI 1 u1, tP 4 4, tP 7 7, tI 8 u0w], [bC 4 GSign.z, bC 7 [aI 1, .str (bs []), aI 0, aI u1, .bool false]], []⟩ ?_
            exact ⟨_, _, rfl, h⟩
          · refine Wc.cF h207 ?_
            refine Wc.fx [] ⟨[tS 0 u3, tI 1 u1, tP 4 4, tP 7 7, tI 8 u0w], [bC 4 GSign.z, bC 7 [aI 2, .str (bs []), aI 0, aI u1, .bool false]], []⟩ ?_
            refine Wc.skip ?_
            exact ⟨_, _, rfl, h⟩
        · refine Wc.cF h204 ?_
          apply Wc.seq
          obtain ⟨ub2, h208, h⟩ := obind h
          refine Wc.r2 [{}, { r := some (.v (.bool ub2) []) }] ⟨[tS 0 u3, tI 1 u1, tP 4 4, tV 6 (.int .u8 (bt u3 u1)), tP 7 7, tI 8 (wr.i64 (u1 + 1)), tB 45 ub2], [bC 4 GSign.z, bC 7 [aI 0, .str (bs []), aI 0, aI u1, .bool false]], []⟩ (.cons (cU_figure h208) .nil) ?_
          rcases oif h with ⟨h209, h⟩ | ⟨h209, h⟩
          · refine Wc.cT h209 ?_
            apply Wc.seq
            obtain ⟨vh, h210, h⟩ := obind h
            refine Wc.r2 [{}, {}, { r := some (.v (aI vh) []) }] ⟨[tS 0 u3, tI 1 u1, tP 4 4, tP 7 7, tI 8 vh], [bC 4 GSign.z, bC 7 [aI 0, .str (bs []), aI 0, aI u1, .bool false]], []⟩ (.cons (cU_run_on2_pU_figure h210) .nil) ?_
            apply Wc.seq
            refine Wc.r0 ⟨[tS 0 u3, tI 1 u1, tP 4 4, tP 7 7, tI 8 vh, tI 9 0], [bC 4 GSign.z, bC 7 [aI 0, .str (bs []), aI 0, aI u1, .bool false]], []⟩ ?_
            apply Wc.seq
            apply Wc.seq
            refine Wc.r0 ⟨[tS 0 u3, tI 1 u1, tP 4 4, tP 7 7, tI 8 vh, tI 9 0, tI 10 u1], [bC 4 GSign.z, bC 7 [aI 0, .str (bs []), aI 0, aI u1, .bool false]], []⟩ ?_
            obtain ⟨out4, h211, h⟩ := obind h
            refine Wc.lastJ (fun st => ∃ (u0z : Int), out4 = .done u0z ∧ st = ⟨[tS 0 u3, tI 1 u1, tP 4 4, tP 7 7, tI 8 vh, tI 9 u0z], [bC 4 GSign.z, bC 7 [aI 0, .str (bs []), aI 0, aI u1, .bool false]], []⟩) ?_ ?_
            · refine Wc.block ?_
              refine Wc.loop (fun m st => ∃ (u11 : Int) (u12 : Int), st = ⟨[tS 0 u3, tI 1 u1, tP 4 4, tP 7 7, tI 8 vh, tI 9 u11, tI 10 u12], [bC 4 GSign.z, bC 7 [aI 0, .str (bs []), aI 0, aI u1, .bool false]], []⟩ ∧ pU_nextSign_L4 k vh u3 m u11 u12 = some out4) ?_ k ⟨_, _, rfl, h211⟩
              rintro m st ⟨u11, u12, rfl, h211⟩
              cases m with
              | zero => exact (onone h211).elim
              | succ m =>
                apply Wc.seq
                apply Wc.seq
                rcases oif h211 with ⟨h212, h211⟩ | ⟨h212, h211⟩
                · refine Wc.r2 [{}, {}, {}, { re := some (.bool true) }] ⟨[tS 0 u3, tI 1 u1, tP 4 4, tP 7 7, tI 8 vh, tI 9 u11, tI 10 u12, tB 58 (decide (u11 ≤ 999999999))], [bC 4 GSign.z, bC 7 [aI 0, .str (bs []), aI 0, aI u1, .bool false]], []⟩ (.cons (congrArg AV.bool h212) .nil) ?_
                  rcases oif h211 with ⟨h213, h211⟩ | ⟨h213, h211⟩
                  · refine Wc.cT h213 ?_
                    refine Wc.fx [] ⟨[tS 0 u3, tI 1 u1, tP 4 4, tP 7 7, tI 8 vh, tI 9 u11, tI 10 u12], [bC 4 GSign.z, bC 7 [aI 0, .str (bs []), aI 0, aI u1, .bool false]], []⟩ ?_
                    refine Wc.skip ?_
                    apply Wc.seq
                    refine Wc.block ?_
                    obtain ⟨h214, h211⟩ := oguard h211
                    refine Wc.r2 [] ⟨[tS 0 u3, tI 1 u1, tP 4 4, tP 7 7, tI 8 vh, tI 9 (wr.i64 ((wr.i64 (10 * u11)) + (wr.i64 (wr.u8 ((bt u3 u12) - 48))))), tI 10 u12], [bC 4 GSign.z, bC 7 [aI 0, .str (bs []), aI 0, aI u1, .bool false]], []⟩ (.cons h214 .nil) ?_
                    refine Wc.r0 ⟨[tS 0 u3, tI 1 u1, tP 4 4, tP 7 7, tI 8 vh, tI 9 (wr.i64 ((wr.i64 (10 * u11)) + (wr.i64 (wr.u8 ((bt u3 u12) - 48))))), tI 10 (wr.i64 (u12 + 1))], [bC 4 GSign.z, bC 7 [aI 0, .str (bs []), aI 0, aI u1, .bool false]], []⟩ ?_
                    exact ⟨_, Nat.lt_succ_self _, _, _, rfl, h211⟩
                  · refine Wc.cF h213 ?_
                    refine Wc.fx [] ⟨[tS 0 u3, tI 1 u1, tP 4 4, tP 7 7, tI 8 vh, tI 9 u11], [bC 4 GSign.z, bC 7 [aI 0, .str (bs []), aI 0, aI u1, .bool false]], []⟩ ?_
                    refine Wc.exit ?_
                    obtain rfl := oInj h211
                    exact ⟨_, rfl, rfl⟩
                · refine Wc.r2 [{}, {}, {}, { re := some (.bool false) }] ⟨[tS 0 u3, tI 1 u1, tP 4 4, tP 7 7, tI 8 vh, tI 9 u11, tI 10 u12, tB 58 false], [bC 4 GSign.z, bC 7 [aI 0, .str (bs []), aI 0, aI u1, .bool false]], []⟩ (.cons (congrArg AV.bool h212) .nil) ?_
                  refine Wc.cF rfl ?_
                  refine Wc.fx [] ⟨[tS 0 u3, tI 1 u1, tP 4 4, tP 7 7, tI 8 vh, tI 9 u11], [bC 4 GSign.z, bC 7 [aI 0, .str (bs []), aI 0, aI u1, .bool false]], []⟩ ?_
                  refine Wc.exit ?_
                  obtain rfl := oInj h211
                  exact ⟨_, rfl, rfl⟩
            · rintro st ⟨u0z, rfl, rfl⟩
              apply Wc.seq
              refine Wc.r0 ⟨[tS 0 u3, tI 1 u1, tP 4 4, tP 7 7, tI 8 vh, tI 9 u0z, tB 70 (decide (u0z ≤ 999999999))], [bC 4 GSign.z, bC 7 [aI 0, .str (bs []), aI 0, aI u1, .bool false]], []⟩ ?_
              rcases oif h with ⟨h215, h⟩ | ⟨h215, h⟩
              · refine Wc.cT h215 ?_
                apply Wc.seq
                refine Wc.r0 ⟨[tP 4 4, tP 7 7, tI 8 vh], [bC 4 GSign.z, bC 7 [aI 3, .str (bs []), aI u0z, aI u1, .bool false]], []⟩ ?_
                apply Wc.seq
                refine Wc.r0 ⟨[tP 4 4, tI 5 vh], [bC 4 [aI 3, .str (bs []), aI u0z, aI u1, .bool false]], []⟩ ?_
                obtain rfl := oInj h; exact Wc.ret dn
              · refine Wc.cF h215 ?_
                refine Wc.fx [] ⟨[tS 0 u3, tI 1 u1, tP 4 4, tP 7 7, tI 8 vh], [bC 4 GSign.z, bC 7 [aI 0, .str (bs []), aI 0, aI u1, .bool false]], []⟩ ?_
                refine Wc.skip ?_
                exact ⟨_, _, rfl, h⟩
          · refine Wc.cF h209 ?_
            apply Wc.seq
            obtain ⟨ub3, h216, h⟩ := obind h
            refine Wc.r2 [{}, { r := some (.v (.bool ub3) []) }] ⟨[tS 0 u3, tI 1 u1, tP 4 4, tV 6 (.int .u8 (bt u3 u1)), tP 7 7, tI 8 (wr.i64 (u1 + 1)), tB 76 ub3], [bC 4 GSign.z, bC 7 [aI 0, .str (bs []), aI 0, aI u1, .bool false]], []⟩ (.cons (cU_SymbolByte h216) .nil) ?_
            rcases oif h with ⟨h217, h⟩ | ⟨h217, h⟩
            · refine Wc.cT h217 ?_
              apply Wc.seq
              obtain ⟨u29, h218, h⟩ := obind h
              refine Wc.r2 [{}, {}, { r := some (.v (aI u29) []) }] ⟨[tS 0 u3, tI 1 u1, tP 4 4, tP 7 7, tI 8 u29], [bC 4 GSign.z, bC 7 [aI 0, .str (bs []), aI 0, aI u1, .bool false]], []⟩ (.cons (cU_run_on2_pU_SymbolByte h218) .nil) ?_
              refine Wc.r0 ⟨[tS 0 u3, tI 1 u1, tP 4 4, tP 7 7, tI 8 u29], [bC 4 GSign.z, bC 7 [aI 1, .str (bs []), aI 0, aI u1, .bool false]], []⟩ ?_
              exact ⟨_, _, rfl, h⟩
            · refine Wc.cF h217 ?_
              refine Wc.seqJ (fun st => ∃ (u33 : Bool), st = ⟨[tS 0 u3, tI 1 u1, tP 4 4, tV 6 (.int .u8 (bt u3 u1)), tP 7 7, tI 8 (wr.i64 (u1 + 1)), tB 83 u33], [bC 4 GSign.z, bC 7 [aI 0, .str (bs []), aI 0, aI u1, .bool false]], []⟩ ∧ pU_nextSign_J5 k u1 u3 u33 = some r) ?_ ?_
              · rcases oif h with ⟨h230, h⟩ | ⟨h230, h⟩
                · refine Wc.r2 [{}, {}, { re := some (.bool true) }] ⟨[tS 0 u3, tI 1 u1, tP 4 4, tV 6 (.int .u8 (bt u3 u1)), tP 7 7, tI 8 (wr.i64 (u1 + 1)), tB 83 true], [bC 4 GSign.z, bC 7 [aI 0, .str (bs []), aI 0, aI u1, .bool false]], []⟩ (.cons (congrArg AV.bool h230) .nil) ?_
                  exact ⟨_, rfl, h⟩
                · refine Wc.r2 [{}, {}, { re := some (.bool false) }] ⟨[tS 0 u3, tI 1 u1, tP 4 4, tV 6 (.int .u8 (bt u3 u1)), tP 7 7, tI 8 (wr.i64 (u1 + 1)), tB 83 ((bt u3 u1) == 59)], [bC 4 GSign.z, bC 7 [aI 0, .str (bs []), aI 0, aI u1, .bool false]], []⟩ (.cons (congrArg AV.bool h230) .nil) ?_
                  exact ⟨_, rfl, h⟩
              · rintro st ⟨u33, rfl, h⟩
                rcases oif h with ⟨h219, h⟩ | ⟨h219, h⟩
                · refine Wc.cT h219 ?_
                  refine Wc.r0 ⟨[tS 0 u3, tI 1 u1, tP 4 4, tP 7 7, tI 8 (wr.i64 (u1 + 1))], [bC 4 GSign.z, bC 7 [aI 1, .str (bs []), aI 0, aI u1, .bool false]], []⟩ ?_
                  exact ⟨_, _, rfl, h⟩
                · refine Wc.cF h219 ?_
                  apply Wc.seq
                  obtain ⟨ub0, h220, h⟩ := obind h
                  refine Wc.r2 [{}, { r := some (.v (aI ub0) []) }] ⟨[tS 0 u3, tI 1 u1, tP 4 4, tV 6 (.int .u8 (bt u3 u1)), tP 7 7, tI 8 (wr.i64 (u1 + 1)), tB 91 (decide (ub0 ≥ 0))], [bC 4 GSign.z, bC 7 [aI 0, .str (bs []), aI 0, aI u1, .bool false]], []⟩ (.cons (cstrings_IndexByte h220) .nil) ?_
                  rcases oif h with ⟨h221, h⟩ | ⟨h221, h⟩
                  · refine Wc.cT h221 ?_
                    refine Wc.r0 ⟨[tS 0 u3, tI 1 u1, tP 4 4, tP 7 7, tI 8 (wr.i64 (u1 + 1))], [bC 4 GSign.z, bC 7 [aI 4, .str (bs []), aI 0, aI u1, .bool false]], []⟩ ?_
                    exact ⟨_, _, rfl, h⟩
                  · refine Wc.cF h221 ?_
                    apply Wc.seq
                    refine Wc.r0 ⟨[tS 0 u3, tI 1 u1, tP 4 4, tP 7 7, tI 8 (wr.i64 (u1 + 1)), tB 96 ((bt u3 u1) == 39)], [bC 4 GSign.z, bC 7 [aI 0, .str (bs []), aI 0, aI u1, .bool false]], []⟩ ?_
                    rcases oif h with ⟨h222, h⟩ | ⟨h222, h⟩
                    · refine Wc.cT h222 ?_
                      apply Wc.seq
                      obtain ⟨ze, h223, h⟩ := obind h
                      refine Wc.r2 [{}, {}, {}, { r := some (.v (aI ze) []) }] ⟨[tS 0 u3, tI 1 u1, tP 4 4, tP 7 7, tI 8 (wr.i64 (u1 + 1)), tI 11 ze], [bC 4 GSign.z, bC 7 [aI 0, .str (bs []), aI 0, aI u1, .bool false]], []⟩ (.cons (cU_run_on2_pU_nextSign_1 h223) .nil) ?_
                      refine Wc.seqJ (fun st => ∃ (u80 : Bool), st = ⟨[tS 0 u3, tI 1 u1, tP 4 4, tP 7 7, tI 8 (wr.i64 (u1 + 1)), tI 11 ze, tB 119 u80], [bC 4 GSign.z, bC 7 [aI 0, .str (bs []), aI 0, aI u1, .bool false]], []⟩ ∧ pU_nextSign_J6 k u1 ze u3 u80 = some r) ?_ ?_
                      · rcases oif h with ⟨h226, h⟩ | ⟨h226, h⟩
                        · obtain ⟨h227, h⟩ := oguard h
                          rcases oif h with ⟨h228, h⟩ | ⟨h228, h⟩
                          · obtain ⟨ub1, h229, h⟩ := obind h
                            refine Wc.r2 [{}, {}, {}, {}, { re := some (.bool true) }, {}, {}, {}, {}, {}, { re := some (.bool true) }, {}, {}, {}, {}, { r := some (.v (.bool ub1) []) }] ⟨[tS 0 u3, tI 1 u1, tP 4 4, tP 7 7, tI 8 (wr.i64 (u1 + 1)), tI 11 ze, tB 119 ub1], [bC 4 GSign.z, bC 7 [aI 0, .str (bs []), aI 0, aI u1, .bool false]], []⟩ (.cons (congrArg AV.bool h226) (.cons h227 (.cons (congrArg AV.bool h228) (.cons (cU_within h229) .nil)))) ?_
                            exact ⟨_, rfl, h⟩
                          · refine Wc.r2 [{}, {}, {}, {}, { re := some (.bool true) }, {}, {}, {}, {}, {}, { re := some (.bool false) }] ⟨[tS 0 u3, tI 1 u1, tP 4 4, tP 7 7, tI 8 (wr.i64 (u1 + 1)), tI 11 ze, tB 119 false], [bC 4 GSign.z, bC 7 [aI 0, .str (bs []), aI 0, aI u1, .bool false]], []⟩ (.cons (congrArg AV.bool h226) (.cons h227 (.cons (congrArg AV.bool h228) .nil))) ?_
                            exact ⟨_, rfl, h⟩
                        · refine Wc.r2 [{}, {}, {}, {}, { re := some (.bool false) }] ⟨[tS 0 u3, tI 1 u1, tP 4 4, tP 7 7, tI 8 (wr.i64 (u1 + 1)), tI 11 ze, tB 119 false], [bC 4 GSign.z, bC 7 [aI 0, .str (bs []), aI 0, aI u1, .bool false]], []⟩ (.cons (congrArg AV.bool h226) .nil) ?_
                          exact ⟨_, rfl, h⟩
                      · rintro st ⟨u80, rfl, h⟩
                        rcases oif h with ⟨h224, h⟩ | ⟨h224, h⟩
                        · refine Wc.cT h224 ?_
                          apply Wc.seq
                          obtain ⟨h225, h⟩ := oguard h
                          refine Wc.draw hmix [] [] [4, 7, 11] [4, 7] [] ⟨[tP 4 4, tP 7 7, tI 11 ze], [bC 4 GSign.z, bC 7 [aI 1, .str (u3.extract ((wr.i64 (u1 + 1)) : Int).toNat (ze : Int).toNat), aI 0, aI u1, .bool false]], []⟩ _ (by kernel_rfl) (fun X => by kernel_rfl) (.cons h225 .nil) ?_
                          apply Wc.seq
                          refine Wc.r0 ⟨[tP 4 4, tI 5 (wr.i64 (ze + 1))], [bC 4 [aI 1, .str (u3.extract ((wr.i64 (u1 + 1)) : Int).toNat (ze : Int).toNat), aI 0, aI u1, .bool false]], []⟩ ?_
                          obtain rfl := oInj h; exact Wc.ret dn
                        · refine Wc.cF h224 ?_
                          refine Wc.fx [] ⟨[tS 0 u3, tI 1 u1, tP 4 4, tP 7 7, tI 8 (wr.i64 (u1 + 1))], [bC 4 GSign.z, bC 7 [aI 0, .str (bs []), aI 0, aI u1, .bool false]], []⟩ ?_
                          refine Wc.skip ?_
                          exact ⟨_, _, rfl, h⟩
                    · refine Wc.cF h222 ?_
                      refine Wc.fx [] ⟨[tS 0 u3, tI 1 u1, tP 4 4, tP 7 7, tI 8 (wr.i64 (u1 + 1))], [bC 4 GSign.z, bC 7 [aI 0, .str (bs []), aI 0, aI u1, .bool false]], []⟩ ?_
                      refine Wc.skip ?_
                      exact ⟨_, _, rfl, h⟩
  · rintro st ⟨vp, un, rfl, h⟩
    apply Wc.seq
    obtain ⟨h197, h⟩ := oguard h
    refine Wc.r2 [] ⟨[tS 0 u3, tI 1 u1, tP 4 4, tP 7 7, tI 8 vp], [bC 4 GSign.z, bC 7 [aI un.gKind, .str (u3.extract (u1 : Int).toNat (vp : Int).toNat), aI un.gNum, aI un.gAt, .bool un.gNear]], []⟩ (.cons h197 .nil) ?_
    apply Wc.seq
    refine Wc.seqJ (fun st => ∃ (u7z : Bool), st = ⟨[tS 0 u3, tI 1 u1, tP 4 4, tP 7 7, tI 8 vp, tB 148 u7z], [bC 4 GSign.z, bC 7 [aI un.gKind, .str (u3.extract (u1 : Int).toNat (vp : Int).toNat), aI un.gNum, aI un.gAt, .bool un.gNear]], []⟩ ∧ pU_nextSign_J2 k u1 u3 un vp u7z = some r) ?_ ?_
    · rcases oif h with ⟨h200, h⟩ | ⟨h200, h⟩
      · refine Wc.r2 [{}, {}, {}, { re := some (.bool true) }] ⟨[tS 0 u3, tI 1 u1, tP 4 4, tP 7 7, tI 8 vp, tB 148 true], [bC 4 GSign.z, bC 7 [aI un.gKind, .str (u3.extract (u1 : Int).toNat (vp : Int).toNat), aI un.gNum, aI un.gAt, .bool un.gNear]], []⟩ (.cons (congrArg AV.bool h200) .nil) ?_
        exact ⟨_, rfl, h⟩
      · rcases oif h with ⟨h201, h⟩ | ⟨h201, h⟩
        · refine Wc.r2 [{}, {}, {}, { re := some (.bool false) }, {}, {}, {}, { re := some (.bool true) }] ⟨[tS 0 u3, tI 1 u1, tP 4 4, tP 7 7, tI 8 vp, tB 148 (decide (((u3.extract (u1 : Int).toNat (vp : Int).toNat).size : Int) > 20))], [bC 4 GSign.z, bC 7 [aI un.gKind, .str (u3.extract (u1 : Int).toNat (vp : Int).toNat), aI un.gNum, aI un.gAt, .bool un.gNear]], []⟩ (.cons (congrArg AV.bool h200) (.cons (congrArg AV.bool h201) .nil)) ?_
          exact ⟨_, rfl, h⟩
        · refine Wc.r2 [{}, {}, {}, { re := some (.bool false) }, {}, {}, {}, { re := some (.bool false) }] ⟨[tS 0 u3, tI 1 u1, tP 4 4, tP 7 7, tI 8 vp, tB 148 false], [bC 4 GSign.z, bC 7 [aI un.gKind, .str (u3.extract (u1 : Int).toNat (vp : Int).toNat), aI un.gNum, aI un.gAt, .bool un.gNear]], []⟩ (.cons (congrArg AV.bool h200) (.cons (congrArg AV.bool h201) .nil)) ?_
          exact ⟨_, rfl, h⟩
    · rintro st ⟨u7z, rfl, h⟩
      rcases oif h with ⟨h198, h⟩ | ⟨h198, h⟩
      · refine Wc.cT h198 ?_
        apply Wc.seq
        obtain ⟨h199, h⟩ := oguard h
        refine Wc.draw hmix [] [] [1, 4, 7] [4, 7] [] ⟨[tI 1 u1, tP 4 4, tP 7 7], [bC 4 GSign.z, bC 7 [aI 6, .str (u3.extract (u1 : Int).toNat ((wr.i64 (u1 + 1)) : Int).toNat), aI un.gNum, aI un.gAt, .bool un.gNear]], []⟩ _ (by kernel_rfl) (fun X => by kernel_rfl) (.cons h199 .nil) ?_
        refine Wc.r0 ⟨[tP 4 4, tP 7 7, tI 8 (wr.i64 (u1 + 1))], [bC 4 GSign.z, bC 7 [aI 6, .str (u3.extract (u1 : Int).toNat ((wr.i64 (u1 + 1)) : Int).toNat), aI un.gNum, aI un.gAt, .bool un.gNear]], []⟩ ?_
        apply Wc.seq
        refine Wc.r0 ⟨[tP 4 4, tI 5 (wr.i64 (u1 + 1))], [bC 4 [aI 6, .str (u3.extract (u1 : Int).toNat ((wr.i64 (u1 + 1)) : Int).toNat), aI un.gNum, aI un.gAt, .bool un.gNear]], []⟩ ?_
        obtain rfl := oInj h; exact Wc.ret dn
      · refine Wc.cF h198 ?_
        refine Wc.fx [] ⟨[tP 4 4, tP 7 7, tI 8 vp], [bC 4 GSign.z, bC 7 [aI un.gKind, .str (u3.extract (u1 : Int).toNat (vp : Int).toNat), aI un.gNum, aI un.gAt, .bool un.gNear]], []⟩ ?_
        refine Wc.skip ?_
        apply Wc.seq
        refine Wc.r0 ⟨[tP 4 4, tI 5 vp], [bC 4 [aI un.gKind, .str (u3.extract (u1 : Int).toNat (vp : Int).toNat), aI un.gNum, aI un.gAt, .bool un.gNear]], []⟩ ?_
        obtain rfl := oInj h; exact Wc.ret dn

def pU_run_on2_pU_SignsOf_1_L1 (k : Nat) (u13 : ByteArray) : Nat → Int → Option (Out Int Int)
  | 0, _ => none
  | m + 1, u0n =>
    if (decide (u0n < (u13.size : Int))) = true then
      if 0 ≤ u0n ∧ (u0n).toNat < u13.size then
        (pU_SignsOf_1 k (bt u13 u0n)).bind fun ub6 =>
        if ub6 = true then
          pU_run_on2_pU_SignsOf_1_L1 k u13 m (wr.i64 (u0n + 1))
        else
          some (.done u0n)
      else none
    else
      some (.done u0n)
def pU_run_on2_pU_SignsOf_1 (k : Nat) (u13 : ByteArray) (u83 : Int) : Option Int :=
  (pU_run_on2_pU_SignsOf_1_L1 k u13 k u83).bind fun out1 => match out1 with
  | .ret r => some r
  | .done u61 =>
    some u61
theorem cU_run_on2_pU_SignsOf_1 {k : Nat} {u13 : ByteArray} {u83 : Int} {r : Int} (h : pU_run_on2_pU_SignsOf_1 k u13 u83 = some r) : FnO Tryz.prog 109 [.v (.str u13) [], .v (aI u83) [], .v (.func 110 []) []] (.v (aI r) []) [] := by
  refine FnO.o2 Tryz.func109 (rfl : Tryz.f109.body = some _) ?_
  intro w0 X0 Fin pv0 pb gt
  unfold pU_run_on2_pU_SignsOf_1 at h
  apply Wc.seq
  refine Wc.r0 ⟨[tS 0 u13, tI 1 u83, tV 2 (.func 110 [])], [], []⟩ ?_
  obtain ⟨out1, h240, h⟩ := obind h
  refine Wc.seqJ (fun st => ∃ (u61 : Int), out1 = .done u61 ∧ st = ⟨[tI 1 u61], [], []⟩) ?_ ?_
  · refine Wc.block ?_
    refine Wc.loop (fun m st => ∃ (u0n : Int), st = ⟨[tS 0 u13, tI 1 u0n, tV 2 (.func 110 [])], [], []⟩ ∧ pU_run_on2_pU_SignsOf_1_L1 k u13 m u0n = some out1) ?_ k ⟨_, rfl, h240⟩
    rintro m st ⟨u0n, rfl, h240⟩
    cases m with
    | zero => exact (onone h240).elim
    | succ m =>
      apply Wc.seq
      apply Wc.seq
      rcases oif h240 with ⟨h241, h240⟩ | ⟨h241, h240⟩
      · obtain ⟨h242, h240⟩ := oguard h240
        obtain ⟨ub6, h243, h240⟩ := obind h240
        refine Wc.r2 [{}, {}, {}, {}, { re := some (.bool true) }, {}, {}, {}, {}, { r := some (.v (.bool ub6) []) }] ⟨[tS 0 u13, tI 1 u0n, tV 2 (.func 110 []), tB 17 ub6], [], []⟩ (.cons (congrArg AV.bool h241) (.cons h242 (.cons (cU_SignsOf_1 h243) .nil))) ?_
        rcases oif h240 with ⟨h244, h240⟩ | ⟨h244, h240⟩
        · refine Wc.cT h244 ?_
          refine Wc.fx [] ⟨[tS 0 u13, tI 1 u0n, tV 2 (.func 110 [])], [], []⟩ ?_
          refine Wc.skip ?_
          refine Wc.block ?_
          refine Wc.r0 ⟨[tS 0 u13, tI 1 (wr.i64 (u0n + 1)), tV 2 (.func 110 [])], [], []⟩ ?_
          exact ⟨_, Nat.lt_succ_self _, _, rfl, h240⟩
        · refine Wc.cF h244 ?_
          refine Wc.fx [] ⟨[tI 1 u0n], [], []⟩ ?_
          refine Wc.exit ?_
          obtain rfl := oInj h240
          exact ⟨_, rfl, rfl⟩
      · refine Wc.r2 [{}, {}, {}, {}, { re := some (.bool false) }] ⟨[tS 0 u13, tI 1 u0n, tV 2 (.func 110 []), tB 17 false], [], []⟩ (.cons (congrArg AV.bool h241) .nil) ?_
        refine Wc.cF rfl ?_
        refine Wc.fx [] ⟨[tI 1 u0n], [], []⟩ ?_
        refine Wc.exit ?_
        obtain rfl := oInj h240
        exact ⟨_, rfl, rfl⟩
  · rintro st ⟨u61, rfl, rfl⟩
    apply Wc.seq
    refine Wc.r0 ⟨[tI 6 u61], [], []⟩ ?_
    obtain rfl := oInj h; exact Wc.ret dn

def pU_SignsOf_J2 (k : Nat) (bk_ : (List GSign) → Int → Option (Out ((List GSign) × Bool) (List GSign))) (uz : List GSign) (v0 : Int) (ue : ByteArray) (u84 : Bool) : Option (Out ((List GSign) × Bool) (List GSign)) :=
  if u84 = true then
    bk_ uz (wr.i64 (v0 + 1))
  else
    if ((bt ue v0) == 37) = true then
      (pU_run_on2_pU_SignsOf_1 k ue v0).bind fun ub7 =>
      bk_ uz ub7
    else
      (pU_nextSign k ue v0).bind fun u5 =>
      if (decide (u5.2 < (ue.size : Int))) = true then
        if 0 ≤ u5.2 ∧ (u5.2).toNat < ue.size then
          if uz.length + [GSign.mk u5.1.gKind u5.1.gText u5.1.gNum u5.1.gAt ((bt ue u5.2) == 40)].length ≤ 1073741824 then
            bk_ (uz ++ [GSign.mk u5.1.gKind u5.1.gText u5.1.gNum u5.1.gAt ((bt ue u5.2) == 40)]) u5.2
          else none
        else none
      else
        if uz.length + [GSign.mk u5.1.gKind u5.1.gText u5.1.gNum u5.1.gAt false].length ≤ 1073741824 then
          bk_ (uz ++ [GSign.mk u5.1.gKind u5.1.gText u5.1.gNum u5.1.gAt false]) u5.2
        else none
def pU_SignsOf_L1 (k : Nat) (ue : ByteArray) : Nat → (List GSign) → Int → Option (Out ((List GSign) × Bool) (List GSign))
  | 0, _, _ => none
  | m + 1, uz, v0 =>
    if (decide (v0 < (ue.size : Int))) = true then
      if 0 ≤ v0 ∧ (v0).toNat < ue.size then
        if ((bt ue v0) == 32) = true then
          pU_SignsOf_J2 k (pU_SignsOf_L1 k ue m) uz v0 ue ((bt ue v0) == 32)
        else
          if ((bt ue v0) == 9) = true then
            pU_SignsOf_J2 k (pU_SignsOf_L1 k ue m) uz v0 ue ((bt ue v0) == 9)
          else
            pU_SignsOf_J2 k (pU_SignsOf_L1 k ue m) uz v0 ue ((bt ue v0) == 10)
      else none
    else
      some (.done uz)
def pU_SignsOf (k : Nat) (ue : ByteArray) : Option ((List GSign) × Bool) :=
  if (decide ((ue.size : Int) > 3000)) = true then
    some ([], false)
  else
    (pU_SignsOf_L1 k ue k [] 0).bind fun out1 => match out1 with
    | .ret r => some r
    | .done u62 =>
      some (u62, true)
set_option maxHeartbeats 4000000 in
theorem cU_SignsOf {k : Nat} {ue : ByteArray} {r : (List GSign) × Bool} (h : pU_SignsOf k ue = some r) : FnO Tryz.prog 52 [.v (.str ue) []] (.v (.tup [.sl (List.map GSign.c r.1), .bool r.2]) [(0, .app 86)]) [] := by
  refine FnO.o2 Tryz.func52 (rfl : Tryz.f52.body = some _) ?_
  intro w0 X0 Fin pv0 pb gt
  unfold pU_SignsOf at h
  apply Wc.seq
  refine Wc.r0 ⟨[tS 0 ue], [], []⟩ ?_
  apply Wc.seq
  apply Wc.seq
  refine Wc.r0 ⟨[tS 0 ue, tB 10 (decide ((ue.size : Int) > 3000))], [], []⟩ ?_
  rcases oif h with ⟨h249, h⟩ | ⟨h249, h⟩
  · refine Wc.cT h249 ?_
    apply Wc.seq
    refine Wc.r0 ⟨[(2, (.v (.sl (List.map GSign.c [])), [(0, .app 86)])), tB 3 false], [], []⟩ ?_
    obtain rfl := oInj h; exact Wc.ret dn
  · refine Wc.cF h249 ?_
    refine Wc.fx [] ⟨[tS 0 ue], [], []⟩ ?_
    refine Wc.skip ?_
    apply Wc.seq
    refine Wc.r0 ⟨[tS 0 ue, (4, (.v (.sl (List.map GSign.c [])), [(0, .app 86)]))], [], []⟩ ?_
    apply Wc.seq
    apply Wc.seq
    refine Wc.r0 ⟨[tS 0 ue, (4, (.v (.sl (List.map GSign.c [])), [(0, .app 86)])), tI 5 0], [], []⟩ ?_
    obtain ⟨out1, h250, h⟩ := obind h
    refine Wc.lastJ (fun st => ∃ (u62 : List GSign), out1 = .done u62 ∧ st = ⟨[(4, (.v (.sl (List.map GSign.c u62)), [(0, .app 86)]))], [], []⟩) ?_ ?_
    · refine Wc.block ?_
      refine Wc.loop (fun m st => ∃ (uz : List GSign) (v0 : Int), st = ⟨[tS 0 ue, (4, (.v (.sl (List.map GSign.c uz)), [(0, .app 86)])), tI 5 v0], [], []⟩ ∧ pU_SignsOf_L1 k ue m uz v0 = some out1) ?_ k ⟨_, _, rfl, h250⟩
      rintro m st ⟨uz, v0, rfl, h250⟩
      cases m with
      | zero => exact (onone h250).elim
      | succ m =>
        apply Wc.seq
        apply Wc.seq
        refine Wc.r0 ⟨[tS 0 ue, (4, (.v (.sl (List.map GSign.c uz)), [(0, .app 86)])), tI 5 v0, tB 14 (decide (v0 < (ue.size : Int)))], [], []⟩ ?_
        rcases oif h250 with ⟨h251, h250⟩ | ⟨h251, h250⟩
        · refine Wc.cT h251 ?_
          refine Wc.fx [] ⟨[tS 0 ue, (4, (.v (.sl (List.map GSign.c uz)), [(0, .app 86)])), tI 5 v0], [], []⟩ ?_
          refine Wc.skip ?_
          refine Wc.block ?_
          apply Wc.seq
          apply Wc.seq
          obtain ⟨h252, h250⟩ := oguard h250
          refine Wc.r2 [] ⟨[tS 0 ue, (4, (.v (.sl (List.map GSign.c uz)), [(0, .app 86)])), tI 5 v0, tV 17 (.int .u8 (bt ue v0))], [], []⟩ (.cons h252 .nil) ?_
          refine Wc.block ?_
          refine Wc.seqJ (fun st => ∃ (u84 : Bool), st = ⟨[tS 0 ue, (4, (.v (.sl (List.map GSign.c uz)), [(0, .app 86)])), tI 5 v0, tV 17 (.int .u8 (bt ue v0)), tB 18 u84], [], []⟩ ∧ pU_SignsOf_J2 k (pU_SignsOf_L1 k ue m) uz v0 ue u84 = some out1) ?_ ?_
          · apply Wc.seq
            refine Wc.r0 ⟨[tS 0 ue, (4, (.v (.sl (List.map GSign.c uz)), [(0, .app 86)])), tI 5 v0, tV 17 (.int .u8 (bt ue v0)), tB 18 ((bt ue v0) == 32)], [], []⟩ ?_
            rcases oif h250 with ⟨h261, h250⟩ | ⟨h261, h250⟩
            · refine Wc.cT h261 ?_
              refine Wc.skip ?_
              exact ⟨_, rfl, h250⟩
            · refine Wc.cF h261 ?_
              apply Wc.seq
              refine Wc.r0 ⟨[tS 0 ue, (4, (.v (.sl (List.map GSign.c uz)), [(0, .app 86)])), tI 5 v0, tV 17 (.int .u8 (bt ue v0)), tB 18 ((bt ue v0) == 9)], [], []⟩ ?_
              rcases oif h250 with ⟨h262, h250⟩ | ⟨h262, h250⟩
              · refine Wc.cT h262 ?_
                refine Wc.skip ?_
                exact ⟨_, rfl, h250⟩
              · refine Wc.cF h262 ?_
                refine Wc.r0 ⟨[tS 0 ue, (4, (.v (.sl (List.map GSign.c uz)), [(0, .app 86)])), tI 5 v0, tV 17 (.int .u8 (bt ue v0)), tB 18 ((bt ue v0) == 10)], [], []⟩ ?_
                exact ⟨_, rfl, h250⟩
          · rintro st ⟨u84, rfl, h250⟩
            rcases oif h250 with ⟨h253, h250⟩ | ⟨h253, h250⟩
            · refine Wc.cT h253 ?_
              apply Wc.seq
              refine Wc.r0 ⟨[tS 0 ue, (4, (.v (.sl (List.map GSign.c uz)), [(0, .app 86)])), tI 5 (wr.i64 (v0 + 1))], [], []⟩ ?_
              refine Wc.exit ?_
              exact ⟨_, Nat.lt_succ_self _, _, _, rfl, h250⟩
            · refine Wc.cF h253 ?_
              apply Wc.seq
              refine Wc.r0 ⟨[tS 0 ue, (4, (.v (.sl (List.map GSign.c uz)), [(0, .app 86)])), tI 5 v0, tB 24 ((bt ue v0) == 37)], [], []⟩ ?_
              rcases oif h250 with ⟨h254, h250⟩ | ⟨h254, h250⟩
              · refine Wc.cT h254 ?_
                apply Wc.seq
                obtain ⟨ub7, h255, h250⟩ := obind h250
                refine Wc.r2 [{}, {}, { r := some (.v (aI ub7) []) }] ⟨[tS 0 ue, (4, (.v (.sl (List.map GSign.c uz)), [(0, .app 86)])), tI 5 ub7], [], []⟩ (.cons (cU_run_on2_pU_SignsOf_1 h255) .nil) ?_
                refine Wc.exit ?_
                exact ⟨_, Nat.lt_succ_self _, _, _, rfl, h250⟩
              · refine Wc.cF h254 ?_
                refine Wc.fx [] ⟨[tS 0 ue, (4, (.v (.sl (List.map GSign.c uz)), [(0, .app 86)])), tI 5 v0], [], []⟩ ?_
                refine Wc.skip ?_
                apply Wc.seq
                obtain ⟨u5, h256, h250⟩ := obind h250
                refine Wc.r2 [{}, {}, { r := some (.v (.tup [.agg (GSign.q u5.1), aI u5.2]) []) }] ⟨[tS 0 ue, (4, (.v (.sl (List.map GSign.c uz)), [(0, .app 86)])), tP 6 6, tI 7 u5.2], [bC 6 (GSign.q u5.1)], []⟩ (.cons (cU_nextSign h256) .nil) ?_
                apply Wc.seq
                rcases oif h250 with ⟨h257, h250⟩ | ⟨h257, h250⟩
                · obtain ⟨h258, h250⟩ := oguard h250
                  refine Wc.r2 [{}, {}, {}, {}, { re := some (.bool true) }] ⟨[tS 0 ue, (4, (.v (.sl (List.map GSign.c uz)), [(0, .app 86)])), tP 6 6, tI 7 u5.2], [bC 6 [aI u5.1.gKind, .str u5.1.gText, aI u5.1.gNum, aI u5.1.gAt, .bool ((bt ue u5.2) == 40)]], []⟩ (.cons (congrArg AV.bool h257) (.cons h258 .nil)) ?_
                  apply Wc.seq
                  obtain ⟨h259, h250⟩ := oguard h250
                  refine Wc.r2 [{ tk := [4] }, {}, { c := some (List.map GSign.c [GSign.mk u5.1.gKind u5.1.gText u5.1.gNum u5.1.gAt ((bt ue u5.2) == 40)]) }, { c := some (List.map GSign.c (uz ++ [GSign.mk u5.1.gKind u5.1.gText u5.1.gNum u5.1.gAt ((bt ue u5.2) == 40)])), tk := [46] }, { tk := [49] }] ⟨[tS 0 ue, (4, (.v (.sl (List.map GSign.c (uz ++ [GSign.mk u5.1.gKind u5.1.gText u5.1.gNum u5.1.gAt ((bt ue u5.2) == 40)]))), [(0, .app 86)])), tI 7 u5.2], [], []⟩ (.cons (cl_cons (c := GSign.c) (x := GSign.mk u5.1.gKind u5.1.gText u5.1.gNum u5.1.gAt ((bt ue u5.2) == 40)) (GSign.c_eq (GSign.mk u5.1.gKind u5.1.gText u5.1.gNum u5.1.gAt ((bt ue u5.2) == 40))) (cl_nil GSign.c)) (.cons (app_re2 GSign.c uz [GSign.mk u5.1.gKind u5.1.gText u5.1.gNum u5.1.gAt ((bt ue u5.2) == 40)]) (.cons (app_leaf (c := GSign.c) (ys := [GSign.mk u5.1.gKind u5.1.gText u5.1.gNum u5.1.gAt ((bt ue u5.2) == 40)]) GSign.c_leaf) (.cons (app_obl2 (c := GSign.c) (xs := uz) (ys := [GSign.mk u5.1.gKind u5.1.gText u5.1.gNum u5.1.gAt ((bt ue u5.2) == 40)]) GSign.c_len h259) .nil)))) ?_
                  refine Wc.r0 ⟨[tS 0 ue, (4, (.v (.sl (List.map GSign.c (uz ++ [GSign.mk u5.1.gKind u5.1.gText u5.1.gNum u5.1.gAt ((bt ue u5.2) == 40)]))), [(0, .app 86)])), tI 5 u5.2], [], []⟩ ?_
                  exact ⟨_, Nat.lt_succ_self _, _, _, rfl, h250⟩
                · refine Wc.r2 [{}, {}, {}, {}, { re := some (.bool false) }] ⟨[tS 0 ue, (4, (.v (.sl (List.map GSign.c uz)), [(0, .app 86)])), tP 6 6, tI 7 u5.2], [bC 6 [aI u5.1.gKind, .str u5.1.gText, aI u5.1.gNum, aI u5.1.gAt, .bool false]], []⟩ (.cons (congrArg AV.bool h257) .nil) ?_
                  apply Wc.seq
                  obtain ⟨h260, h250⟩ := oguard h250
                  refine Wc.r2 [{ tk := [4] }, {}, { c := some (List.map GSign.c [GSign.mk u5.1.gKind u5.1.gText u5.1.gNum u5.1.gAt false]) }, { c := some (List.map GSign.c (uz ++ [GSign.mk u5.1.gKind u5.1.gText u5.1.gNum u5.1.gAt false])), tk := [46] }, { tk := [49] }] ⟨[tS 0 ue, (4, (.v (.sl (List.map GSign.c (uz ++ [GSign.mk u5.1.gKind u5.1.gText u5.1.gNum u5.1.gAt false]))), [(0, .app 86)])), tI 7 u5.2], [], []⟩ (.cons (cl_cons (c := GSign.c) (x := GSign.mk u5.1.gKind u5.1.gText u5.1.gNum u5.1.gAt false) (GSign.c_eq (GSign.mk u5.1.gKind u5.1.gText u5.1.gNum u5.1.gAt false)) (cl_nil GSign.c)) (.cons (app_re2 GSign.c uz [GSign.mk u5.1.gKind u5.1.gText u5.1.gNum u5.1.gAt false]) (.cons (app_leaf (c := GSign.c) (ys := [GSign.mk u5.1.gKind u5.1.gText u5.1.gNum u5.1.gAt false]) GSign.c_leaf) (.cons (app_obl2 (c := GSign.c) (xs := uz) (ys := [GSign.mk u5.1.gKind u5.1.gText u5.1.gNum u5.1.gAt false]) GSign.c_len h260) .nil)))) ?_
                  refine Wc.r0 ⟨[tS 0 ue, (4, (.v (.sl (List.map GSign.c (uz ++ [GSign.mk u5.1.gKind u5.1.gText u5.1.gNum u5.1.gAt false]))), [(0, .app 86)])), tI 5 u5.2], [], []⟩ ?_
                  exact ⟨_, Nat.lt_succ_self _, _, _, rfl, h250⟩
        · refine Wc.cF h251 ?_
          refine Wc.fx [] ⟨[(4, (.v (.sl (List.map GSign.c uz)), [(0, .app 86)]))], [], []⟩ ?_
          refine Wc.exit ?_
          obtain rfl := oInj h250
          exact ⟨_, rfl, rfl⟩
    · rintro st ⟨u62, rfl, rfl⟩
      apply Wc.seq
      refine Wc.r1 [{ tk := [4] }, { tk := [51] }] ⟨[(2, (.v (.sl (List.map GSign.c u62)), [(0, .app 86)])), tB 3 true], [], []⟩ ?_
      obtain rfl := oInj h; exact Wc.ret dn

def pU_AtomText (k : Nat) (va : ByteArray) : Option ByteArray :=
  (pU_SignsOf k va).bind fun u1h =>
  if u1h.2 = true then
    if ((u1h.1.length : Int) == 1) = true then
      (at' u1h.1 0).bind fun u44 =>
      if (u44.gKind == 1) = true then
        (at' u1h.1 0).bind fun u3p =>
        if (sEq u3p.gText va) = true then
          some va
        else
          if sumOk (bs [39]) va then
            if sumOk ((bs [39]) ++ va) (bs [39]) then
              some (((bs [39]) ++ va) ++ (bs [39]))
            else none
          else none
      else
        if sumOk (bs [39]) va then
          if sumOk ((bs [39]) ++ va) (bs [39]) then
            some (((bs [39]) ++ va) ++ (bs [39]))
          else none
        else none
    else
      if sumOk (bs [39]) va then
        if sumOk ((bs [39]) ++ va) (bs [39]) then
          some (((bs [39]) ++ va) ++ (bs [39]))
        else none
      else none
  else
    if sumOk (bs [39]) va then
      if sumOk ((bs [39]) ++ va) (bs [39]) then
        some (((bs [39]) ++ va) ++ (bs [39]))
      else none
    else none
theorem cU_AtomText {k : Nat} {va : ByteArray} {r : ByteArray} (h : pU_AtomText k va = some r) : FnO Tryz.prog 16 [.v (.str va) []] (.v (.str r) []) [] := by
  refine FnO.o2 Tryz.func16 (rfl : Tryz.f16.body = some _) ?_
  intro w0 X0 Fin pv0 pb gt
  unfold pU_AtomText at h
  apply Wc.seq
  refine Wc.r0 ⟨[tS 0 va], [], []⟩ ?_
  apply Wc.seq
  obtain ⟨u1h, h263, h⟩ := obind h
  refine Wc.r2 [{}, { r := some (.v (.tup [.sl (List.map GSign.c u1h.1), .bool u1h.2]) [(0, .app 86)]) }, { tk := [7] }, { tk := [5] }, {}, { tk := [8] }] ⟨[tS 0 va, (3, (.v (.sl (List.map GSign.c u1h.1)), [(0, .app 86)])), tB 4 u1h.2], [], []⟩ (.cons (cU_SignsOf h263) .nil) ?_
  apply Wc.seq
  apply Wc.seq
  rcases oif h with ⟨h264, h⟩ | ⟨h264, h⟩
  · rcases oif h with ⟨h265, h⟩ | ⟨h265, h⟩
    · obtain ⟨u44, h266, h⟩ := obind h
      rcases oif h with ⟨h267, h⟩ | ⟨h267, h⟩
      · obtain ⟨u3p, h268, h⟩ := obind h
        refine Wc.r2 [{}, { re := some (.bool true) }, {}, { v := some (aI (u1h.1.length : Int)) }, {}, {}, { re := some (.bool true) }, {}, { v := some (.vptr (GSign.q u44)) }, {}, {}, {}, {}, { re := some (.bool true) }, { tk := [3] }, { v := some (.vptr (GSign.q u3p)) }] ⟨[tS 0 va, tB 30 (sEq u3p.gText va)], [], []⟩ (.cons (congrArg AV.bool h264) (.cons (len_obl GSign.c u1h.1) (.cons (congrArg AV.bool h265) (.cons (at_obl (c := GSign.c) (GSign.c_eq u44) GSign.c_len h266) (.cons (len_ok 1 (GSign.q u44)) (.cons (congrArg AV.bool h267) (.cons (at_obl (c := GSign.c) (GSign.c_eq u3p) GSign.c_len h268) (.cons (len_ok 1 [.str u3p.gText, aI u3p.gNum, aI u3p.gAt, .bool u3p.gNear]) .nil)))))))) ?_
        rcases oif h with ⟨h269, h⟩ | ⟨h269, h⟩
        · refine Wc.cT h269 ?_
          apply Wc.seq
          refine Wc.r0 ⟨[tS 2 va], [], []⟩ ?_
          obtain rfl := oInj h; exact Wc.ret dn
        · refine Wc.cF h269 ?_
          refine Wc.fx [] ⟨[tS 0 va], [], []⟩ ?_
          refine Wc.skip ?_
          apply Wc.seq
          obtain ⟨h270, h⟩ := oguard h
          obtain ⟨h271, h⟩ := oguard h
          refine Wc.r2 [] ⟨[tS 2 (((bs [39]) ++ va) ++ (bs [39]))], [], []⟩ (.cons h270 (.cons h271 .nil)) ?_
          obtain rfl := oInj h; exact Wc.ret dn
      · refine Wc.r2 [{}, { re := some (.bool true) }, {}, { v := some (aI (u1h.1.length : Int)) }, {}, {}, { re := some (.bool true) }, {}, { v := some (.vptr (GSign.q u44)) }, {}, {}, {}, {}, { re := some (.bool false) }] ⟨[tS 0 va, tB 30 false], [], []⟩ (.cons (congrArg AV.bool h264) (.cons (len_obl GSign.c u1h.1) (.cons (congrArg AV.bool h265) (.cons (at_obl (c := GSign.c) (GSign.c_eq u44) GSign.c_len h266) (.cons (len_ok 1 (GSign.q u44)) (.cons (congrArg AV.bool h267) .nil)))))) ?_
        refine Wc.cF rfl ?_
        refine Wc.fx [] ⟨[tS 0 va], [], []⟩ ?_
        refine Wc.skip ?_
        apply Wc.seq
        obtain ⟨h272, h⟩ := oguard h
        obtain ⟨h273, h⟩ := oguard h
        refine Wc.r2 [] ⟨[tS 2 (((bs [39]) ++ va) ++ (bs [39]))], [], []⟩ (.cons h272 (.cons h273 .nil)) ?_
        obtain rfl := oInj h; exact Wc.ret dn
    · refine Wc.r2 [{}, { re := some (.bool true) }, {}, { v := some (aI (u1h.1.length : Int)) }, {}, {}, { re := some (.bool false) }] ⟨[tS 0 va, tB 30 false], [], []⟩ (.cons (congrArg AV.bool h264) (.cons (len_obl GSign.c u1h.1) (.cons (congrArg AV.bool h265) .nil))) ?_
      refine Wc.cF rfl ?_
      refine Wc.fx [] ⟨[tS 0 va], [], []⟩ ?_
      refine Wc.skip ?_
      apply Wc.seq
      obtain ⟨h274, h⟩ := oguard h
      obtain ⟨h275, h⟩ := oguard h
      refine Wc.r2 [] ⟨[tS 2 (((bs [39]) ++ va) ++ (bs [39]))], [], []⟩ (.cons h274 (.cons h275 .nil)) ?_
      obtain rfl := oInj h; exact Wc.ret dn
  · refine Wc.r2 [{}, { re := some (.bool false) }] ⟨[tS 0 va, tB 30 false], [], []⟩ (.cons (congrArg AV.bool h264) .nil) ?_
    refine Wc.cF rfl ?_
    refine Wc.fx [] ⟨[tS 0 va], [], []⟩ ?_
    refine Wc.skip ?_
    apply Wc.seq
    obtain ⟨h276, h⟩ := oguard h
    obtain ⟨h277, h⟩ := oguard h
    refine Wc.r2 [] ⟨[tS 2 (((bs [39]) ++ va) ++ (bs [39]))], [], []⟩ (.cons h276 (.cons h277 .nil)) ?_
    obtain rfl := oInj h; exact Wc.ret dn

def pstrconv_Itoa (k : Nat) (n : Int) : Option ByteArray :=
  if -9223372036854775808 ≤ n ∧ n ≤ 9223372036854775807 then some ⟨(Lib.itoa n).toArray⟩ else none
theorem cstrconv_Itoa {k : Nat} {n : Int} {r : ByteArray} (h : pstrconv_Itoa k n = some r) : FnO Tryz.prog 204 [.v (aI n) []] (.v (.str r) []) [] := itoa_O Tryz.strconv_Itoa tab_at h

def pU_Decimal (k : Nat) (u85 : Int) : Option ByteArray :=
  (pstrconv_Itoa k u85).bind fun ub8 =>
  some ub8
theorem cU_Decimal {k : Nat} {u85 : Int} {r : ByteArray} (h : pU_Decimal k u85 = some r) : FnO Tryz.prog 152 [.v (aI u85) []] (.v (.str r) []) [] := by
  refine FnO.o2 Tryz.func152 (rfl : Tryz.f152.body = some _) ?_
  intro w0 X0 Fin pv0 pb gt
  unfold pU_Decimal at h
  apply Wc.seq
  refine Wc.r0 ⟨[tI 0 u85], [], []⟩ ?_
  apply Wc.seq
  obtain ⟨ub8, h278, h⟩ := obind h
  refine Wc.r2 [{}, { r := some (.v (.str ub8) []) }] ⟨[tS 2 ub8], [], []⟩ (.cons (cstrconv_Itoa h278) .nil) ?_
  obtain rfl := oInj h; exact Wc.ret dn

def pU_isAtom (k : Nat) (u4s : GTerm) (u63 : ByteArray) : Option Bool :=
  if (u4s.gKind == 2) = true then
    some (sEq u4s.gName u63)
  else
    some false
theorem cU_isAtom {k : Nat} {u4s : GTerm} {u63 : ByteArray} {r : Bool} (h : pU_isAtom k u4s u63 = some r) : FnO Tryz.prog 153 [.v (.agg (GTerm.q u4s)) [], .v (.str u63) []] (.v (.bool r) []) [] := by
  refine FnO.o2 Tryz.func153 (rfl : Tryz.f153.body = some _) ?_
  intro w0 X0 Fin pv0 pb gt
  unfold pU_isAtom at h
  apply Wc.seq
  refine Wc.r0 ⟨[tS 1 u63, tP 2 2], [bC 2 (GTerm.q u4s)], []⟩ ?_
  apply Wc.seq
  rcases oif h with ⟨h279, h⟩ | ⟨h279, h⟩
  · refine Wc.r2 [{}, {}, {}, { re := some (.bool true) }] ⟨[tB 4 (sEq u4s.gName u63)], [], []⟩ (.cons (congrArg AV.bool h279) .nil) ?_
    obtain rfl := oInj h; exact Wc.ret dn
  · refine Wc.r2 [{}, {}, {}, { re := some (.bool false) }] ⟨[tB 4 false], [], []⟩ (.cons (congrArg AV.bool h279) .nil) ?_
    obtain rfl := oInj h; exact Wc.ret dn

def pU_InfixOf_J3 (k : Nat) (u7 : ByteArray) (u86 : Bool) : Option (GOp × Bool) :=
  if u86 = true then
    some (GOp.mk u7 500 500 499, true)
  else
    if (sEq u7 (bs [42])) = true then
      if (sEq u7 (bs [42])) = true then
        some (GOp.mk u7 400 400 399, true)
      else
        some (GOp.mk (bs []) 0 0 0, false)
    else
      if (sEq u7 (bs [47, 47])) = true then
        some (GOp.mk u7 400 400 399, true)
      else
        some (GOp.mk (bs []) 0 0 0, false)
def pU_InfixOf_J2 (k : Nat) (u7 : ByteArray) (u87 : Bool) : Option (GOp × Bool) :=
  if u87 = true then
    some (GOp.mk u7 700 699 699, true)
  else
    if (sEq u7 (bs [43])) = true then
      pU_InfixOf_J3 k u7 (sEq u7 (bs [43]))
    else
      pU_InfixOf_J3 k u7 (sEq u7 (bs [45]))
def pU_InfixOf_J1 (k : Nat) (u7 : ByteArray) (u88 : Bool) : Option (GOp × Bool) :=
  if u88 = true then
    some (GOp.mk u7 1200 1199 1199, true)
  else
    if (sEq u7 (bs [59])) = true then
      some (GOp.mk u7 1100 1099 1100, true)
    else
      if (sEq u7 (bs [45, 62])) = true then
        some (GOp.mk u7 1050 1049 1050, true)
      else
        if (sEq u7 (bs [44])) = true then
          some (GOp.mk u7 1000 999 1000, true)
        else
          if (sEq u7 (bs [61])) = true then
            pU_InfixOf_J2 k u7 (sEq u7 (bs [61]))
          else
            if (sEq u7 (bs [92, 61])) = true then
              pU_InfixOf_J2 k u7 (sEq u7 (bs [92, 61]))
            else
              if (sEq u7 (bs [61, 61])) = true then
                pU_InfixOf_J2 k u7 (sEq u7 (bs [61, 61]))
              else
                if (sEq u7 (bs [105, 115])) = true then
                  pU_InfixOf_J2 k u7 (sEq u7 (bs [105, 115]))
                else
                  if (sEq u7 (bs [60])) = true then
                    pU_InfixOf_J2 k u7 (sEq u7 (bs [60]))
                  else
                    pU_InfixOf_J2 k u7 (sEq u7 (bs [61, 58, 61]))
def pU_InfixOf (k : Nat) (u7 : ByteArray) : Option (GOp × Bool) :=
  if (sEq u7 (bs [58, 45])) = true then
    pU_InfixOf_J1 k u7 (sEq u7 (bs [58, 45]))
  else
    pU_InfixOf_J1 k u7 (sEq u7 (bs [45, 45, 62]))
set_option maxHeartbeats 4000000 in
theorem cU_InfixOf {k : Nat} {u7 : ByteArray} {r : GOp × Bool} (h : pU_InfixOf k u7 = some r) : FnO Tryz.prog 205 [.v (.str u7) []] (.v (.tup [.agg (GOp.q r.1), .bool r.2]) []) [] := by
  refine FnO.o2 Tryz.func205 (rfl : Tryz.f205.body = some _) ?_
  intro w0 X0 Fin pv0 pb gt
  unfold pU_InfixOf at h
  apply Wc.seq
  refine Wc.r0 ⟨[tS 0 u7, tP 2 2], [bC 2 GOp.z], []⟩ ?_
  apply Wc.seq
  apply Wc.seq
  refine Wc.r0 ⟨[tS 0 u7, tP 2 2, tS 4 u7], [bC 2 GOp.z], []⟩ ?_
  refine Wc.block ?_
  refine Wc.seqJ (fun st => ∃ (u88 : Bool), st = ⟨[tS 0 u7, tP 2 2, tS 4 u7, tB 5 u88], [bC 2 GOp.z], []⟩ ∧ pU_InfixOf_J1 k u7 u88 = some r) ?_ ?_
  · apply Wc.seq
    refine Wc.r0 ⟨[tS 0 u7, tP 2 2, tS 4 u7, tB 5 (sEq u7 (bs [58, 45]))], [bC 2 GOp.z], []⟩ ?_
    rcases oif h with ⟨h295, h⟩ | ⟨h295, h⟩
    · refine Wc.cT h295 ?_
      refine Wc.skip ?_
      exact ⟨_, rfl, h⟩
    · refine Wc.cF h295 ?_
      refine Wc.r0 ⟨[tS 0 u7, tP 2 2, tS 4 u7, tB 5 (sEq u7 (bs [45, 45, 62]))], [bC 2 GOp.z], []⟩ ?_
      exact ⟨_, rfl, h⟩
  · rintro st ⟨u88, rfl, h⟩
    rcases oif h with ⟨h280, h⟩ | ⟨h280, h⟩
    · refine Wc.cT h280 ?_
      apply Wc.seq
      refine Wc.r0 ⟨[tP 2 2, tB 3 true], [bC 2 [.str u7, aI 1200, aI 1199, aI 1199]], []⟩ ?_
      obtain rfl := oInj h; exact Wc.ret dn
    · refine Wc.cF h280 ?_
      apply Wc.seq
      refine Wc.r0 ⟨[tS 0 u7, tP 2 2, tS 4 u7, tB 10 (sEq u7 (bs [59]))], [bC 2 GOp.z], []⟩ ?_
      rcases oif h with ⟨h281, h⟩ | ⟨h281, h⟩
      · refine Wc.cT h281 ?_
        apply Wc.seq
        refine Wc.r0 ⟨[tP 2 2, tB 3 true], [bC 2 [.str u7, aI 1100, aI 1099, aI 1100]], []⟩ ?_
        obtain rfl := oInj h; exact Wc.ret dn
      · refine Wc.cF h281 ?_
        apply Wc.seq
        refine Wc.r0 ⟨[tS 0 u7, tP 2 2, tS 4 u7, tB 14 (sEq u7 (bs [45, 62]))], [bC 2 GOp.z], []⟩ ?_
        rcases oif h with ⟨h282, h⟩ | ⟨h282, h⟩
        · refine Wc.cT h282 ?_
          apply Wc.seq
          refine Wc.r0 ⟨[tP 2 2, tB 3 true], [bC 2 [.str u7, aI 1050, aI 1049, aI 1050]], []⟩ ?_
          obtain rfl := oInj h; exact Wc.ret dn
        · refine Wc.cF h282 ?_
          apply Wc.seq
          refine Wc.r0 ⟨[tS 0 u7, tP 2 2, tS 4 u7, tB 18 (sEq u7 (bs [44]))], [bC 2 GOp.z], []⟩ ?_
          rcases oif h with ⟨h283, h⟩ | ⟨h283, h⟩
          · refine Wc.cT h283 ?_
            apply Wc.seq
            refine Wc.r0 ⟨[tP 2 2, tB 3 true], [bC 2 [.str u7, aI 1000, aI 999, aI 1000]], []⟩ ?_
            obtain rfl := oInj h; exact Wc.ret dn
          · refine Wc.cF h283 ?_
            refine Wc.seqJ (fun st => ∃ (u87 : Bool), st = ⟨[tS 0 u7, tP 2 2, tS 4 u7, tB 22 u87], [bC 2 GOp.z], []⟩ ∧ pU_InfixOf_J2 k u7 u87 = some r) ?_ ?_
            · apply Wc.seq
              refine Wc.r0 ⟨[tS 0 u7, tP 2 2, tS 4 u7, tB 22 (sEq u7 (bs [61]))], [bC 2 GOp.z], []⟩ ?_
              rcases oif h with ⟨h290, h⟩ | ⟨h290, h⟩
              · refine Wc.cT h290 ?_
                refine Wc.skip ?_
                exact ⟨_, rfl, h⟩
              · refine Wc.cF h290 ?_
                apply Wc.seq
                refine Wc.r0 ⟨[tS 0 u7, tP 2 2, tS 4 u7, tB 22 (sEq u7 (bs [92, 61]))], [bC 2 GOp.z], []⟩ ?_
                rcases oif h with ⟨h291, h⟩ | ⟨h291, h⟩
                · refine Wc.cT h291 ?_
                  refine Wc.skip ?_
                  exact ⟨_, rfl, h⟩
                · refine Wc.cF h291 ?_
                  apply Wc.seq
                  refine Wc.r0 ⟨[tS 0 u7, tP 2 2, tS 4 u7, tB 22 (sEq u7 (bs [61, 61]))], [bC 2 GOp.z], []⟩ ?_
                  rcases oif h with ⟨h292, h⟩ | ⟨h292, h⟩
                  · refine Wc.cT h292 ?_
                    refine Wc.skip ?_
                    exact ⟨_, rfl, h⟩
                  · refine Wc.cF h292 ?_
                    apply Wc.seq
                    refine Wc.r0 ⟨[tS 0 u7, tP 2 2, tS 4 u7, tB 22 (sEq u7 (bs [105, 115]))], [bC 2 GOp.z], []⟩ ?_
                    rcases oif h with ⟨h293, h⟩ | ⟨h293, h⟩
                    · refine Wc.cT h293 ?_
                      refine Wc.skip ?_
                      exact ⟨_, rfl, h⟩
                    · refine Wc.cF h293 ?_
                      apply Wc.seq
                      refine Wc.r0 ⟨[tS 0 u7, tP 2 2, tS 4 u7, tB 22 (sEq u7 (bs [60]))], [bC 2 GOp.z], []⟩ ?_
                      rcases oif h with ⟨h294, h⟩ | ⟨h294, h⟩
                      · refine Wc.cT h294 ?_
                        refine Wc.skip ?_
                        exact ⟨_, rfl, h⟩
                      · refine Wc.cF h294 ?_
                        refine Wc.r0 ⟨[tS 0 u7, tP 2 2, tS 4 u7, tB 22 (sEq u7 (bs [61, 58, 61]))], [bC 2 GOp.z], []⟩ ?_
                        exact ⟨_, rfl, h⟩
            · rintro st ⟨u87, rfl, h⟩
              rcases oif h with ⟨h284, h⟩ | ⟨h284, h⟩
              · refine Wc.cT h284 ?_
                apply Wc.seq
                refine Wc.r0 ⟨[tP 2 2, tB 3 true], [bC 2 [.str u7, aI 700, aI 699, aI 699]], []⟩ ?_
                obtain rfl := oInj h; exact Wc.ret dn
              · refine Wc.cF h284 ?_
                refine Wc.seqJ (fun st => ∃ (u86 : Bool), st = ⟨[tS 0 u7, tP 2 2, tS 4 u7, tB 31 u86], [bC 2 GOp.z], []⟩ ∧ pU_InfixOf_J3 k u7 u86 = some r) ?_ ?_
                · apply Wc.seq
                  refine Wc.r0 ⟨[tS 0 u7, tP 2 2, tS 4 u7, tB 31 (sEq u7 (bs [43]))], [bC 2 GOp.z], []⟩ ?_
                  rcases oif h with ⟨h289, h⟩ | ⟨h289, h⟩
                  · refine Wc.cT h289 ?_
                    refine Wc.skip ?_
                    exact ⟨_, rfl, h⟩
                  · refine Wc.cF h289 ?_
                    refine Wc.r0 ⟨[tS 0 u7, tP 2 2, tS 4 u7, tB 31 (sEq u7 (bs [45]))], [bC 2 GOp.z], []⟩ ?_
                    exact ⟨_, rfl, h⟩
                · rintro st ⟨u86, rfl, h⟩
                  rcases oif h with ⟨h285, h⟩ | ⟨h285, h⟩
                  · refine Wc.cT h285 ?_
                    apply Wc.seq
                    refine Wc.r0 ⟨[tP 2 2, tB 3 true], [bC 2 [.str u7, aI 500, aI 500, aI 499]], []⟩ ?_
                    obtain rfl := oInj h; exact Wc.ret dn
                  · refine Wc.cF h285 ?_
                    apply Wc.seq
                    apply Wc.seq
                    refine Wc.r0 ⟨[tS 0 u7, tP 2 2, tS 4 u7, tB 36 (sEq u7 (bs [42]))], [bC 2 GOp.z], []⟩ ?_
                    rcases oif h with ⟨h286, h⟩ | ⟨h286, h⟩
                    · refine Wc.cT h286 ?_
                      refine Wc.fx [] ⟨[tS 0 u7, tP 2 2, tB 36 (sEq u7 (bs [42]))], [bC 2 GOp.z], []⟩ ?_
                      refine Wc.skip ?_
                      rcases oif h with ⟨h287, h⟩ | ⟨h287, h⟩
                      · refine Wc.cT h287 ?_
                        apply Wc.seq
                        refine Wc.r0 ⟨[tP 2 2, tB 3 true], [bC 2 [.str u7, aI 400, aI 400, aI 399]], []⟩ ?_
                        obtain rfl := oInj h; exact Wc.ret dn
                      · refine Wc.cF h287 ?_
                        refine Wc.fx [] ⟨[tP 2 2], [bC 2 GOp.z], []⟩ ?_
                        refine Wc.skip ?_
                        apply Wc.seq
                        refine Wc.r0 ⟨[tP 2 2, tB 3 false], [bC 2 GOp.z], []⟩ ?_
                        obtain rfl := oInj h; exact Wc.ret dn
                    · refine Wc.cF h286 ?_
                      refine Wc.r0 ⟨[tS 0 u7, tP 2 2, tB 36 (sEq u7 (bs [47, 47]))], [bC 2 GOp.z], []⟩ ?_
                      rcases oif h with ⟨h288, h⟩ | ⟨h288, h⟩
                      · refine Wc.cT h288 ?_
                        apply Wc.seq
                        refine Wc.r0 ⟨[tP 2 2, tB 3 true], [bC 2 [.str u7, aI 400, aI 400, aI 399]], []⟩ ?_
                        obtain rfl := oInj h; exact Wc.ret dn
                      · refine Wc.cF h288 ?_
                        refine Wc.fx [] ⟨[tP 2 2], [bC 2 GOp.z], []⟩ ?_
                        refine Wc.skip ?_
                        apply Wc.seq
                        refine Wc.r0 ⟨[tP 2 2, tB 3 false], [bC 2 GOp.z], []⟩ ?_
                        obtain rfl := oInj h; exact Wc.ret dn

def pU_PrefixOf (k : Nat) (zl : ByteArray) : Option (GOp × Bool) :=
  if (sEq zl (bs [58, 45])) = true then
    some (GOp.mk zl 1200 0 1199, true)
  else
    if (sEq zl (bs [92, 43])) = true then
      some (GOp.mk zl 900 0 900, true)
    else
      if (sEq zl (bs [45])) = true then
        some (GOp.mk zl 200 0 200, true)
      else
        some (GOp.mk (bs []) 0 0 0, false)
theorem cU_PrefixOf {k : Nat} {zl : ByteArray} {r : GOp × Bool} (h : pU_PrefixOf k zl = some r) : FnO Tryz.prog 206 [.v (.str zl) []] (.v (.tup [.agg (GOp.q r.1), .bool r.2]) []) [] := by
  refine FnO.o2 Tryz.func206 (rfl : Tryz.f206.body = some _) ?_
  intro w0 X0 Fin pv0 pb gt
  unfold pU_PrefixOf at h
  apply Wc.seq
  refine Wc.r0 ⟨[tS 0 zl, tP 2 2], [bC 2 GOp.z], []⟩ ?_
  apply Wc.seq
  apply Wc.seq
  refine Wc.r0 ⟨[tS 0 zl, tP 2 2, tS 4 zl], [bC 2 GOp.z], []⟩ ?_
  refine Wc.block ?_
  apply Wc.seq
  refine Wc.r0 ⟨[tS 0 zl, tP 2 2, tS 4 zl, tB 5 (sEq zl (bs [58, 45]))], [bC 2 GOp.z], []⟩ ?_
  rcases oif h with ⟨h296, h⟩ | ⟨h296, h⟩
  · refine Wc.cT h296 ?_
    apply Wc.seq
    refine Wc.r0 ⟨[tP 2 2, tB 3 true], [bC 2 [.str zl, aI 1200, aI 0, aI 1199]], []⟩ ?_
    obtain rfl := oInj h; exact Wc.ret dn
  · refine Wc.cF h296 ?_
    apply Wc.seq
    refine Wc.r0 ⟨[tS 0 zl, tP 2 2, tS 4 zl, tB 9 (sEq zl (bs [92, 43]))], [bC 2 GOp.z], []⟩ ?_
    rcases oif h with ⟨h297, h⟩ | ⟨h297, h⟩
    · refine Wc.cT h297 ?_
      apply Wc.seq
      refine Wc.r0 ⟨[tP 2 2, tB 3 true], [bC 2 [.str zl, aI 900, aI 0, aI 900]], []⟩ ?_
      obtain rfl := oInj h; exact Wc.ret dn
    · refine Wc.cF h297 ?_
      apply Wc.seq
      refine Wc.r0 ⟨[tS 0 zl, tP 2 2, tB 13 (sEq zl (bs [45]))], [bC 2 GOp.z], []⟩ ?_
      rcases oif h with ⟨h298, h⟩ | ⟨h298, h⟩
      · refine Wc.cT h298 ?_
        apply Wc.seq
        refine Wc.r0 ⟨[tP 2 2, tB 3 true], [bC 2 [.str zl, aI 200, aI 0, aI 200]], []⟩ ?_
        obtain rfl := oInj h; exact Wc.ret dn
      · refine Wc.cF h298 ?_
        refine Wc.fx [] ⟨[tP 2 2], [bC 2 GOp.z], []⟩ ?_
        refine Wc.skip ?_
        apply Wc.seq
        refine Wc.r0 ⟨[tP 2 2, tB 3 false], [bC 2 GOp.z], []⟩ ?_
        obtain rfl := oInj h; exact Wc.ret dn

def pU_isOp (k : Nat) (u4t : ByteArray) : Option Bool :=
  (pU_InfixOf k u4t).bind fun u64 =>
  (pU_PrefixOf k u4t).bind fun u65 =>
  if u64.2 = true then
    some true
  else
    some u65.2
theorem cU_isOp {k : Nat} {u4t : ByteArray} {r : Bool} (h : pU_isOp k u4t = some r) : FnO Tryz.prog 154 [.v (.str u4t) []] (.v (.bool r) []) [] := by
  refine FnO.o2 Tryz.func154 (rfl : Tryz.f154.body = some _) ?_
  intro w0 X0 Fin pv0 pb gt
  unfold pU_isOp at h
  apply Wc.seq
  refine Wc.r0 ⟨[tS 0 u4t], [], []⟩ ?_
  apply Wc.seq
  obtain ⟨u64, h299, h⟩ := obind h
  refine Wc.r2 [{}, { r := some (.v (.tup [.agg (GOp.q u64.1), .bool u64.2]) []) }] ⟨[tS 0 u4t, tB 4 u64.2], [], []⟩ (.cons (cU_InfixOf h299) .nil) ?_
  apply Wc.seq
  obtain ⟨u65, h300, h⟩ := obind h
  refine Wc.r2 [{}, { r := some (.v (.tup [.agg (GOp.q u65.1), .bool u65.2]) []) }] ⟨[tB 4 u64.2, tB 6 u65.2], [], []⟩ (.cons (cU_PrefixOf h300) .nil) ?_
  apply Wc.seq
  rcases oif h with ⟨h301, h⟩ | ⟨h301, h⟩
  · refine Wc.r2 [{}, { re := some (.bool true) }] ⟨[tB 2 true], [], []⟩ (.cons (congrArg AV.bool h301) .nil) ?_
    obtain rfl := oInj h; exact Wc.ret dn
  · refine Wc.r2 [{}, { re := some (.bool false) }] ⟨[tB 2 u65.2], [], []⟩ (.cons (congrArg AV.bool h301) .nil) ?_
    obtain rfl := oInj h; exact Wc.ret dn

def pU_isStruct (k : Nat) (u34 : GTerm) (u89 : ByteArray) (u66 : Int) : Option Bool :=
  if (u34.gKind == 4) = true then
    if (sEq u34.gName u89) = true then
      some ((u34.gKids.length : Int) == u66)
    else
      some false
  else
    some false
theorem cU_isStruct {k : Nat} {u34 : GTerm} {u89 : ByteArray} {u66 : Int} {r : Bool} (h : pU_isStruct k u34 u89 u66 = some r) : FnO Tryz.prog 128 [.v (.agg (GTerm.q u34)) [], .v (.str u89) [], .v (aI u66) []] (.v (.bool r) []) [] := by
  refine FnO.o2 Tryz.func128 (rfl : Tryz.f128.body = some _) ?_
  intro w0 X0 Fin pv0 pb gt
  unfold pU_isStruct at h
  apply Wc.seq
  refine Wc.r0 ⟨[tS 1 u89, tI 2 u66, tP 3 3], [bC 3 (GTerm.q u34)], []⟩ ?_
  apply Wc.seq
  rcases oif h with ⟨h302, h⟩ | ⟨h302, h⟩
  · rcases oif h with ⟨h303, h⟩ | ⟨h303, h⟩
    · refine Wc.r2 [{}, {}, {}, { re := some (.bool true) }, {}, {}, {}, {}, {}, { re := some (.bool true) }, {}, {}, { v := some (aI (u34.gKids.length : Int)) }] ⟨[tB 6 ((u34.gKids.length : Int) == u66)], [], []⟩ (.cons (congrArg AV.bool h302) (.cons (congrArg AV.bool h303) (.cons (len_obl GTerm.c u34.gKids) .nil))) ?_
      obtain rfl := oInj h; exact Wc.ret dn
    · refine Wc.r2 [{}, {}, {}, { re := some (.bool true) }, {}, {}, {}, {}, {}, { re := some (.bool false) }] ⟨[tB 6 false], [], []⟩ (.cons (congrArg AV.bool h302) (.cons (congrArg AV.bool h303) .nil)) ?_
      obtain rfl := oInj h; exact Wc.ret dn
  · refine Wc.r2 [{}, {}, {}, { re := some (.bool false) }] ⟨[tB 6 false], [], []⟩ (.cons (congrArg AV.bool h302) .nil) ?_
    obtain rfl := oInj h; exact Wc.ret dn

def pU_isPair (k : Nat) (u8a : GTerm) : Option Bool :=
  (pU_isStruct k u8a (bs [46]) 2).bind fun ub9 =>
  some ub9
theorem cU_isPair {k : Nat} {u8a : GTerm} {r : Bool} (h : pU_isPair k u8a = some r) : FnO Tryz.prog 155 [.v (.agg (GTerm.q u8a)) []] (.v (.bool r) []) [] := by
  refine FnO.o2 Tryz.func155 (rfl : Tryz.f155.body = some _) ?_
  intro w0 X0 Fin pv0 pb gt
  unfold pU_isPair at h
  apply Wc.seq
  refine Wc.r0 ⟨[tP 1 1], [bC 1 (GTerm.q u8a)], []⟩ ?_
  apply Wc.seq
  obtain ⟨ub9, h304, h⟩ := obind h
  refine Wc.r2 [{}, { r := some (.v (.bool ub9) []) }] ⟨[tB 2 ub9], [], []⟩ (.cons (cU_isStruct h304) .nil) ?_
  obtain rfl := oInj h; exact Wc.ret dn

def pU_isInfix (k : Nat) (u2r : GTerm) : Option Bool :=
  (pU_InfixOf k u2r.gName).bind fun u8b =>
  if u8b.2 = true then
    if (u2r.gKind == 4) = true then
      some ((u2r.gKids.length : Int) == 2)
    else
      some false
  else
    some false
theorem cU_isInfix {k : Nat} {u2r : GTerm} {r : Bool} (h : pU_isInfix k u2r = some r) : FnO Tryz.prog 156 [.v (.agg (GTerm.q u2r)) []] (.v (.bool r) []) [] := by
  refine FnO.o2 Tryz.func156 (rfl : Tryz.f156.body = some _) ?_
  intro w0 X0 Fin pv0 pb gt
  unfold pU_isInfix at h
  apply Wc.seq
  refine Wc.r0 ⟨[tP 1 1], [bC 1 (GTerm.q u2r)], []⟩ ?_
  apply Wc.seq
  obtain ⟨u8b, h305, h⟩ := obind h
  refine Wc.r2 [{}, {}, { r := some (.v (.tup [.agg (GOp.q u8b.1), .bool u8b.2]) []) }] ⟨[tP 1 1, tB 4 u8b.2], [bC 1 (GTerm.q u2r)], []⟩ (.cons (cU_InfixOf h305) .nil) ?_
  apply Wc.seq
  rcases oif h with ⟨h306, h⟩ | ⟨h306, h⟩
  · rcases oif h with ⟨h307, h⟩ | ⟨h307, h⟩
    · refine Wc.r2 [{}, { re := some (.bool true) }, {}, {}, {}, {}, { re := some (.bool true) }, {}, {}, { v := some (aI (u2r.gKids.length : Int)) }] ⟨[tB 2 ((u2r.gKids.length : Int) == 2)], [], []⟩ (.cons (congrArg AV.bool h306) (.cons (congrArg AV.bool h307) (.cons (len_obl GTerm.c u2r.gKids) .nil))) ?_
      obtain rfl := oInj h; exact Wc.ret dn
    · refine Wc.r2 [{}, { re := some (.bool true) }, {}, {}, {}, {}, { re := some (.bool false) }] ⟨[tB 2 false], [], []⟩ (.cons (congrArg AV.bool h306) (.cons (congrArg AV.bool h307) .nil)) ?_
      obtain rfl := oInj h; exact Wc.ret dn
  · refine Wc.r2 [{}, { re := some (.bool false) }] ⟨[tB 2 false], [], []⟩ (.cons (congrArg AV.bool h306) .nil) ?_
    obtain rfl := oInj h; exact Wc.ret dn

def pstrings_Join (k : Nat) (l : List ByteArray) (s : ByteArray) : Option ByteArray :=
  if l.length ≤ 1073741824 ∧ (joinB l s).size ≤ 1073741824 then some (joinB l s) else none
theorem cstrings_Join {k : Nat} {l : List ByteArray} {s r : ByteArray} (h : pstrings_Join k l s = some r) : FnO Tryz.prog 157 [.v (.sl (List.map cS l)) [], .v (.str s) []] (.v (.str r) []) [] := join_O Tryz.strings_Join_none Tryz.strings_Join h

def pU_signText (k : Nat) (u2s : ByteArray) : Option ByteArray :=
  if (sEq u2s (bs [44])) = true then
    some u2s
  else
    (pU_AtomText k u2s).bind fun uba =>
    some uba
theorem cU_signText {k : Nat} {u2s : ByteArray} {r : ByteArray} (h : pU_signText k u2s = some r) : FnO Tryz.prog 94 [.v (.str u2s) []] (.v (.str r) []) [] := by
  refine FnO.o2 Tryz.func94 (rfl : Tryz.f94.body = some _) ?_
  intro w0 X0 Fin pv0 pb gt
  unfold pU_signText at h
  apply Wc.seq
  refine Wc.r0 ⟨[tS 0 u2s], [], []⟩ ?_
  apply Wc.seq
  apply Wc.seq
  refine Wc.r0 ⟨[tS 0 u2s, tB 4 (sEq u2s (bs [44]))], [], []⟩ ?_
  rcases oif h with ⟨h308, h⟩ | ⟨h308, h⟩
  · refine Wc.cT h308 ?_
    apply Wc.seq
    refine Wc.r0 ⟨[tS 2 u2s], [], []⟩ ?_
    obtain rfl := oInj h; exact Wc.ret dn
  · refine Wc.cF h308 ?_
    refine Wc.fx [] ⟨[tS 0 u2s], [], []⟩ ?_
    refine Wc.skip ?_
    apply Wc.seq
    obtain ⟨uba, h309, h⟩ := obind h
    refine Wc.r2 [{}, { r := some (.v (.str uba) []) }] ⟨[tS 2 uba], [], []⟩ (.cons (cU_AtomText h309) .nil) ?_
    obtain rfl := oInj h; exact Wc.ret dn

def pU_writeWith_on1_pU_write_on2_pU_write_1_L2 (k : Nat) (rimpl_write : GTerm → Option ByteArray) (rimpl_write_1 : GTerm → Option ByteArray) : Nat → ByteArray → GTerm → Option (Out ByteArray (ByteArray × GTerm))
  | 0, _, _ => none
  | m + 1, u2a, u2b =>
    (pU_isPair k u2b).bind fun ubb =>
    if ubb = true then
      (at' u2b.gKids 0).bind fun u2c =>
      (rimpl_write u2c).bind fun u03 =>
      if sumOk (bs [44]) u03 then
        if sumOk u2a ((bs [44]) ++ u03) then
          (at' u2b.gKids 1).bind fun u67 =>
          pU_writeWith_on1_pU_write_on2_pU_write_1_L2 k rimpl_write rimpl_write_1 m (u2a ++ ((bs [44]) ++ u03)) u67
        else none
      else none
    else
      some (.done (u2a, u2b))
def pU_writeWith_on1_pU_write_on2_pU_write_1_L3 (k : Nat) (rimpl_write : GTerm → Option ByteArray) (rimpl_write_1 : GTerm → Option ByteArray) (uc : GTerm) : Nat → (List ByteArray) → Int → Option (Out ByteArray (List ByteArray))
  | 0, _, _ => none
  | m + 1, u14, u0 =>
    if (decide (u0 < (uc.gKids.length : Int))) = true then
      (at' uc.gKids u0).bind fun u68 =>
      (rimpl_write u68).bind fun u2d =>
      if u14.length + [u2d].length ≤ 1073741824 then
        pU_writeWith_on1_pU_write_on2_pU_write_1_L3 k rimpl_write rimpl_write_1 uc m (u14 ++ [u2d]) (wr.i64 (u0 + 1))
      else none
    else
      some (.done u14)
def pU_writeWith_on1_pU_write_on2_pU_write_1_J1 (k : Nat) (rimpl_write : GTerm → Option ByteArray) (rimpl_write_1 : GTerm → Option ByteArray) (uc : GTerm) (u8c : Bool) : Option ByteArray :=
  if u8c = true then
    (pU_AtomText k uc.gName).bind fun u69 =>
    if sumOk (bs [40]) u69 then
      if sumOk ((bs [40]) ++ u69) (bs [41]) then
        some (((bs [40]) ++ u69) ++ (bs [41]))
      else none
    else none
  else
    if (uc.gKind == 2) = true then
      (pU_AtomText k uc.gName).bind fun ubc =>
      some ubc
    else
      (pU_isPair k uc).bind fun u3q =>
      if u3q = true then
        (at' uc.gKids 0).bind fun u2e =>
        (rimpl_write u2e).bind fun u6a =>
        if sumOk (bs [91]) u6a then
          (at' uc.gKids 1).bind fun u6b =>
          (pU_writeWith_on1_pU_write_on2_pU_write_1_L2 k rimpl_write rimpl_write_1 k ((bs [91]) ++ u6a) u6b).bind fun out2 => match out2 with
          | .ret r => some r
          | .done (v6, u4u) =>
            (pU_isAtom k u4u (bs [91, 93])).bind fun ubd =>
            if (!ubd) = true then
              (rimpl_write u4u).bind fun u45 =>
              if sumOk (bs [124]) u45 then
                if sumOk v6 ((bs [124]) ++ u45) then
                  if sumOk (v6 ++ ((bs [124]) ++ u45)) (bs [93]) then
                    some ((v6 ++ ((bs [124]) ++ u45)) ++ (bs [93]))
                  else none
                else none
              else none
            else
              if sumOk v6 (bs [93]) then
                some (v6 ++ (bs [93]))
              else none
        else none
      else
        (pU_isInfix k uc).bind fun u15 =>
        if u15 = true then
          (rimpl_write_1 uc).bind fun ube =>
          some ube
        else
          (pU_writeWith_on1_pU_write_on2_pU_write_1_L3 k rimpl_write rimpl_write_1 uc k [] 0).bind fun out3 => match out3 with
          | .ret r => some r
          | .done u8d =>
            (pU_AtomText k uc.gName).bind fun u4v =>
            if sumOk u4v (bs [40]) then
              (pstrings_Join k u8d (bs [44])).bind fun u6c =>
              if sumOk (u4v ++ (bs [40])) u6c then
                if sumOk ((u4v ++ (bs [40])) ++ u6c) (bs [41]) then
                  some (((u4v ++ (bs [40])) ++ u6c) ++ (bs [41]))
                else none
              else none
            else none
def pU_writeWith_on1_pU_write_on2_pU_write_1 (k : Nat) (rimpl_write : GTerm → Option ByteArray) (rimpl_write_1 : GTerm → Option ByteArray) (uc : GTerm) : Option ByteArray :=
  if (uc.gKind == 1) = true then
    (pU_Decimal k uc.gNum).bind fun u0c =>
    if sumOk (bs [95]) u0c then
      some ((bs [95]) ++ u0c)
    else none
  else
    if (uc.gKind == 3) = true then
      (pU_Decimal k uc.gNum).bind fun ubf =>
      some ubf
    else
      (pU_isAtom k uc (bs [91, 93])).bind fun ubg =>
      if ubg = true then
        some (bs [91, 93])
      else
        if (uc.gKind == 2) = true then
          (pU_isOp k uc.gName).bind fun ubh =>
          pU_writeWith_on1_pU_write_on2_pU_write_1_J1 k rimpl_write rimpl_write_1 uc ubh
        else
          pU_writeWith_on1_pU_write_on2_pU_write_1_J1 k rimpl_write rimpl_write_1 uc false
set_option maxHeartbeats 4000000 in
theorem cU_writeWith_on1_pU_write_on2_pU_write_1 {k : Nat} {rimpl_write : GTerm → Option ByteArray} {rimpl_write_1 : GTerm → Option ByteArray} (ih_pU_write : ∀ {y0 : GTerm} {r : ByteArray}, rimpl_write y0 = some r → FnO Tryz.prog 43 [.v (.agg (GTerm.q y0)) []] (.v (.str r) []) []) (ih_pU_write_1 : ∀ {y0 : GTerm} {r : ByteArray}, rimpl_write_1 y0 = some r → FnO Tryz.prog 93 [.v (.agg (GTerm.q y0)) []] (.v (.str r) []) []) {uc : GTerm} {r : ByteArray} (h : pU_writeWith_on1_pU_write_on2_pU_write_1 k rimpl_write rimpl_write_1 uc = some r) : FnO Tryz.prog 92 [.v (.agg (GTerm.q uc)) [], .v (.func 43 []) [], .v (.func 93 []) []] (.v (.str r) []) [] := by
  refine FnO.o2 Tryz.func92 (rfl : Tryz.f92.body = some _) ?_
  intro w0 X0 Fin pv0 pb gt
  unfold pU_writeWith_on1_pU_write_on2_pU_write_1 at h
  apply Wc.seq
  refine Wc.r0 ⟨[tV 1 (.func 43 []), tV 2 (.func 93 []), tP 3 3], [bC 3 (GTerm.q uc)], []⟩ ?_
  apply Wc.seq
  refine Wc.block ?_
  apply Wc.seq
  refine Wc.r0 ⟨[tV 1 (.func 43 []), tV 2 (.func 93 []), tP 3 3, tB 12 (uc.gKind == 1)], [bC 3 (GTerm.q uc)], []⟩ ?_
  rcases oif h with ⟨h326, h⟩ | ⟨h326, h⟩
  · refine Wc.cT h326 ?_
    apply Wc.seq
    obtain ⟨u0c, h327, h⟩ := obind h
    obtain ⟨h328, h⟩ := oguard h
    refine Wc.r2 [{}, {}, { r := some (.v (.str u0c) []) }] ⟨[tS 6 ((bs [95]) ++ u0c)], [], []⟩ (.cons (cU_Decimal h327) (.cons h328 .nil)) ?_
    obtain rfl := oInj h; exact Wc.ret dn
  · refine Wc.cF h326 ?_
    apply Wc.seq
    refine Wc.r0 ⟨[tV 1 (.func 43 []), tV 2 (.func 93 []), tP 3 3, tB 20 (uc.gKind == 3)], [bC 3 (GTerm.q uc)], []⟩ ?_
    rcases oif h with ⟨h329, h⟩ | ⟨h329, h⟩
    · refine Wc.cT h329 ?_
      apply Wc.seq
      obtain ⟨ubf, h330, h⟩ := obind h
      refine Wc.r2 [{}, {}, { r := some (.v (.str ubf) []) }] ⟨[tS 6 ubf], [], []⟩ (.cons (cU_Decimal h330) .nil) ?_
      obtain rfl := oInj h; exact Wc.ret dn
    · refine Wc.cF h329 ?_
      apply Wc.seq
      obtain ⟨ubg, h331, h⟩ := obind h
      refine Wc.r2 [{}, { r := some (.v (.bool ubg) []) }] ⟨[tV 1 (.func 43 []), tV 2 (.func 93 []), tP 3 3, tB 27 ubg], [bC 3 (GTerm.q uc)], []⟩ (.cons (cU_isAtom h331) .nil) ?_
      rcases oif h with ⟨h332, h⟩ | ⟨h332, h⟩
      · refine Wc.cT h332 ?_
        apply Wc.seq
        refine Wc.r0 ⟨[tS 6 (bs [91, 93])], [], []⟩ ?_
        obtain rfl := oInj h; exact Wc.ret dn
      · refine Wc.cF h332 ?_
        refine Wc.seqJ (fun st => ∃ (u8c : Bool), st = ⟨[tV 1 (.func 43 []), tV 2 (.func 93 []), tP 3 3, tB 30 u8c], [bC 3 (GTerm.q uc)], []⟩ ∧ pU_writeWith_on1_pU_write_on2_pU_write_1_J1 k rimpl_write rimpl_write_1 uc u8c = some r) ?_ ?_
        · rcases oif h with ⟨h373, h⟩ | ⟨h373, h⟩
          · obtain ⟨ubh, h374, h⟩ := obind h
            refine Wc.r2 [{}, {}, {}, { re := some (.bool true) }, {}, {}, { r := some (.v (.bool ubh) []) }] ⟨[tV 1 (.func 43 []), tV 2 (.func 93 []), tP 3 3, tB 30 ubh], [bC 3 (GTerm.q uc)], []⟩ (.cons (congrArg AV.bool h373) (.cons (cU_isOp h374) .nil)) ?_
            exact ⟨_, rfl, h⟩
          · refine Wc.r2 [{}, {}, {}, { re := some (.bool false) }] ⟨[tV 1 (.func 43 []), tV 2 (.func 93 []), tP 3 3, tB 30 false], [bC 3 (GTerm.q uc)], []⟩ (.cons (congrArg AV.bool h373) .nil) ?_
            exact ⟨_, rfl, h⟩
        · rintro st ⟨u8c, rfl, h⟩
          rcases oif h with ⟨h333, h⟩ | ⟨h333, h⟩
          · refine Wc.cT h333 ?_
            apply Wc.seq
            obtain ⟨u69, h334, h⟩ := obind h
            obtain ⟨h335, h⟩ := oguard h
            obtain ⟨h336, h⟩ := oguard h
            refine Wc.r2 [{}, {}, { r := some (.v (.str u69) []) }] ⟨[tS 6 (((bs [40]) ++ u69) ++ (bs [41]))], [], []⟩ (.cons (cU_AtomText h334) (.cons h335 (.cons h336 .nil))) ?_
            obtain rfl := oInj h; exact Wc.ret dn
          · refine Wc.cF h333 ?_
            apply Wc.seq
            refine Wc.r0 ⟨[tV 1 (.func 43 []), tV 2 (.func 93 []), tP 3 3, tB 44 (uc.gKind == 2)], [bC 3 (GTerm.q uc)], []⟩ ?_
            rcases oif h with ⟨h337, h⟩ | ⟨h337, h⟩
            · refine Wc.cT h337 ?_
              apply Wc.seq
              obtain ⟨ubc, h338, h⟩ := obind h
              refine Wc.r2 [{}, {}, { r := some (.v (.str ubc) []) }] ⟨[tS 6 ubc], [], []⟩ (.cons (cU_AtomText h338) .nil) ?_
              obtain rfl := oInj h; exact Wc.ret dn
            · refine Wc.cF h337 ?_
              apply Wc.seq
              obtain ⟨u3q, h339, h⟩ := obind h
              refine Wc.r2 [{}, { r := some (.v (.bool u3q) []) }] ⟨[tV 1 (.func 43 []), tV 2 (.func 93 []), tP 3 3, tB 51 u3q], [bC 3 (GTerm.q uc)], []⟩ (.cons (cU_isPair h339) .nil) ?_
              rcases oif h with ⟨h340, h⟩ | ⟨h340, h⟩
              · refine Wc.cT h340 ?_
                apply Wc.seq
                obtain ⟨u2e, h341, h⟩ := obind h
                obtain ⟨u6a, h342, h⟩ := obind h
                obtain ⟨h343, h⟩ := oguard h
                refine Wc.r2 [{}, {}, {}, { v := some (.vptr (GTerm.q u2e)) }, {}, { r := some (.v (.str u6a) []) }] ⟨[tV 1 (.func 43 []), tP 3 3, tS 7 ((bs [91]) ++ u6a)], [bC 3 (GTerm.q uc)], []⟩ (.cons (at_obl (c := GTerm.c) (GTerm.c_eq u2e) GTerm.c_len h341) (.cons (len_ok 4 (GTerm.q u2e)) (.cons (ih_pU_write h342) (.cons h343 .nil)))) ?_
                apply Wc.seq
                obtain ⟨u6b, h344, h⟩ := obind h
                refine Wc.r2 [{}, {}, { v := some (.vptr (GTerm.q u6b)) }] ⟨[tV 1 (.func 43 []), tS 7 ((bs [91]) ++ u6a), tP 8 8], [bC 8 (GTerm.q u6b)], []⟩ (.cons (at_obl (c := GTerm.c) (GTerm.c_eq u6b) GTerm.c_len h344) (.cons (len_ok 4 (GTerm.q u6b)) .nil)) ?_
                obtain ⟨out2, h345, h⟩ := obind h
                refine Wc.seqJ (fun st => ∃ (v6 : ByteArray) (u4u : GTerm), out2 = .done (v6, u4u) ∧ st = ⟨[tV 1 (.func 43 []), tS 7 v6, tP 8 8], [bC 8 (GTerm.q u4u)], []⟩) ?_ ?_
                · refine Wc.block ?_
                  refine Wc.loop (fun m st => ∃ (u2a : ByteArray) (u2b : GTerm), st = ⟨[tV 1 (.func 43 []), tS 7 u2a, tP 8 8], [bC 8 (GTerm.q u2b)], []⟩ ∧ pU_writeWith_on1_pU_write_on2_pU_write_1_L2 k rimpl_write rimpl_write_1 m u2a u2b = some out2) ?_ k ⟨_, _, rfl, h345⟩
                  rintro m st ⟨u2a, u2b, rfl, h345⟩
                  cases m with
                  | zero => exact (onone h345).elim
                  | succ m =>
                    apply Wc.seq
                    apply Wc.seq
                    obtain ⟨ubb, h346, h345⟩ := obind h345
                    refine Wc.r2 [{}, { r := some (.v (.bool ubb) []) }] ⟨[tV 1 (.func 43 []), tS 7 u2a, tP 8 8, tB 66 ubb], [bC 8 (GTerm.q u2b)], []⟩ (.cons (cU_isPair h346) .nil) ?_
                    rcases oif h345 with ⟨h347, h345⟩ | ⟨h347, h345⟩
                    · refine Wc.cT h347 ?_
                      refine Wc.fx [] ⟨[tV 1 (.func 43 []), tS 7 u2a, tP 8 8], [bC 8 (GTerm.q u2b)], []⟩ ?_
                      refine Wc.skip ?_
                      apply Wc.seq
                      refine Wc.block ?_
                      obtain ⟨u2c, h348, h345⟩ := obind h345
                      obtain ⟨u03, h349, h345⟩ := obind h345
                      obtain ⟨h350, h345⟩ := oguard h345
                      obtain ⟨h351, h345⟩ := oguard h345
                      refine Wc.r2 [{}, {}, {}, {}, { v := some (.vptr (GTerm.q u2c)) }, {}, { r := some (.v (.str u03) []) }] ⟨[tV 1 (.func 43 []), tS 7 (u2a ++ ((bs [44]) ++ u03)), tP 8 8], [bC 8 (GTerm.q u2b)], []⟩ (.cons (at_obl (c := GTerm.c) (GTerm.c_eq u2c) GTerm.c_len h348) (.cons (len_ok 4 (GTerm.q u2c)) (.cons (ih_pU_write h349) (.cons h350 (.cons h351 .nil))))) ?_
                      obtain ⟨u67, h352, h345⟩ := obind h345
                      refine Wc.r2 [{}, {}, { v := some (.vptr (GTerm.q u67)) }] ⟨[tV 1 (.func 43 []), tS 7 (u2a ++ ((bs [44]) ++ u03)), tP 8 8], [bC 8 (GTerm.q u67)], []⟩ (.cons (at_obl (c := GTerm.c) (GTerm.c_eq u67) GTerm.c_len h352) (.cons (len_ok 4 (GTerm.q u67)) .nil)) ?_
                      exact ⟨_, Nat.lt_succ_self _, _, _, rfl, h345⟩
                    · refine Wc.cF h347 ?_
                      refine Wc.fx [] ⟨[tV 1 (.func 43 []), tS 7 u2a, tP 8 8], [bC 8 (GTerm.q u2b)], []⟩ ?_
                      refine Wc.exit ?_
                      obtain rfl := oInj h345
                      exact ⟨_, _, rfl, rfl⟩
                · rintro st ⟨v6, u4u, rfl, rfl⟩
                  apply Wc.seq
                  apply Wc.seq
                  obtain ⟨ubd, h353, h⟩ := obind h
                  refine Wc.r2 [{}, { r := some (.v (.bool ubd) []) }] ⟨[tV 1 (.func 43 []), tS 7 v6, tP 8 8, tB 82 (!ubd)], [bC 8 (GTerm.q u4u)], []⟩ (.cons (cU_isAtom h353) .nil) ?_
                  rcases oif h with ⟨h354, h⟩ | ⟨h354, h⟩
                  · refine Wc.cT h354 ?_
                    obtain ⟨u45, h355, h⟩ := obind h
                    obtain ⟨h356, h⟩ := oguard h
                    obtain ⟨h357, h⟩ := oguard h
                    refine Wc.r2 [{}, {}, {}, { r := some (.v (.str u45) []) }] ⟨[tS 7 (v6 ++ ((bs [124]) ++ u45))], [], []⟩ (.cons (ih_pU_write h355) (.cons h356 (.cons h357 .nil))) ?_
                    apply Wc.seq
                    obtain ⟨h358, h⟩ := oguard h
                    refine Wc.r2 [] ⟨[tS 6 ((v6 ++ ((bs [124]) ++ u45)) ++ (bs [93]))], [], []⟩ (.cons h358 .nil) ?_
                    obtain rfl := oInj h; exact Wc.ret dn
                  · refine Wc.cF h354 ?_
                    refine Wc.fx [] ⟨[tS 7 v6], [], []⟩ ?_
                    refine Wc.skip ?_
                    apply Wc.seq
                    obtain ⟨h359, h⟩ := oguard h
                    refine Wc.r2 [] ⟨[tS 6 (v6 ++ (bs [93]))], [], []⟩ (.cons h359 .nil) ?_
                    obtain rfl := oInj h; exact Wc.ret dn
              · refine Wc.cF h340 ?_
                apply Wc.seq
                obtain ⟨u15, h360, h⟩ := obind h
                refine Wc.r2 [{}, { r := some (.v (.bool u15) []) }] ⟨[tV 1 (.func 43 []), tV 2 (.func 93 []), tP 3 3, tB 91 u15], [bC 3 (GTerm.q uc)], []⟩ (.cons (cU_isInfix h360) .nil) ?_
                rcases oif h with ⟨h361, h⟩ | ⟨h361, h⟩
                · refine Wc.cT h361 ?_
                  apply Wc.seq
                  obtain ⟨ube, h362, h⟩ := obind h
                  refine Wc.r2 [{}, {}, { r := some (.v (.str ube) []) }] ⟨[tS 6 ube], [], []⟩ (.cons (ih_pU_write_1 h362) .nil) ?_
                  obtain rfl := oInj h; exact Wc.ret dn
                · refine Wc.cF h361 ?_
                  refine Wc.fx [] ⟨[tV 1 (.func 43 []), tP 3 3], [bC 3 (GTerm.q uc)], []⟩ ?_
                  refine Wc.skip ?_
                  apply Wc.seq
                  refine Wc.r0 ⟨[tV 1 (.func 43 []), tP 3 3, (9, (.v (.sl (List.map cS [])), [(0, .app 9)]))], [bC 3 (GTerm.q uc)], []⟩ ?_
                  apply Wc.seq
                  apply Wc.seq
                  refine Wc.r2 [{}, {}, { v := some (aI (uc.gKids.length : Int)) }] ⟨[tV 1 (.func 43 []), tP 3 3, (9, (.v (.sl (List.map cS [])), [(0, .app 9)])), tV 98 (.sl (List.map GTerm.c uc.gKids)), tI 99 (uc.gKids.length : Int), tI 100 0], [bC 3 (GTerm.q uc)], []⟩ (.cons (len_obl GTerm.c uc.gKids) .nil) ?_
                  obtain ⟨out3, h363, h⟩ := obind h
                  refine Wc.lastJ (fun st => ∃ (u8d : List ByteArray), out3 = .done u8d ∧ st = ⟨[tP 3 3, (9, (.v (.sl (List.map cS u8d)), [(0, .app 9)]))], [bC 3 (GTerm.q uc)], []⟩) ?_ ?_
                  · refine Wc.block ?_
                    refine Wc.loop (fun m st => ∃ (u14 : List ByteArray) (u0 : Int), st = ⟨[tV 1 (.func 43 []), tP 3 3, (9, (.v (.sl (List.map cS u14)), [(0, .app 9)])), tV 98 (.sl (List.map GTerm.c uc.gKids)), tI 99 (uc.gKids.length : Int), tI 100 u0], [bC 3 (GTerm.q uc)], []⟩ ∧ pU_writeWith_on1_pU_write_on2_pU_write_1_L3 k rimpl_write rimpl_write_1 uc m u14 u0 = some out3) ?_ k ⟨_, _, rfl, h363⟩
                    rintro m st ⟨u14, u0, rfl, h363⟩
                    cases m with
                    | zero => exact (onone h363).elim
                    | succ m =>
                      apply Wc.seq
                      refine Wc.r0 ⟨[tV 1 (.func 43 []), tP 3 3, (9, (.v (.sl (List.map cS u14)), [(0, .app 9)])), tV 98 (.sl (List.map GTerm.c uc.gKids)), tI 99 (uc.gKids.length : Int), tI 100 u0, tB 101 (decide (u0 < (uc.gKids.length : Int)))], [bC 3 (GTerm.q uc)], []⟩ ?_
                      apply Wc.seq
                      rcases oif h363 with ⟨h364, h363⟩ | ⟨h364, h363⟩
                      · refine Wc.cT h364 ?_
                        refine Wc.fx [] ⟨[tV 1 (.func 43 []), tP 3 3, (9, (.v (.sl (List.map cS u14)), [(0, .app 9)])), tV 98 (.sl (List.map GTerm.c uc.gKids)), tI 99 (uc.gKids.length : Int), tI 100 u0], [bC 3 (GTerm.q uc)], []⟩ ?_
                        refine Wc.skip ?_
                        apply Wc.seq
                        refine Wc.block ?_
                        apply Wc.seq
                        obtain ⟨u68, h365, h363⟩ := obind h363
                        refine Wc.r2 [{ v := some (.vptr (GTerm.q u68)) }] ⟨[tV 1 (.func 43 []), tP 3 3, (9, (.v (.sl (List.map cS u14)), [(0, .app 9)])), tP 11 11, tV 98 (.sl (List.map GTerm.c uc.gKids)), tI 99 (uc.gKids.length : Int), tI 100 u0], [bC 3 (GTerm.q uc), bC 11 (GTerm.q u68)], []⟩ (.cons (at_obl (c := GTerm.c) (GTerm.c_eq u68) GTerm.c_len h365) (.cons (len_ok 4 (GTerm.q u68)) .nil)) ?_
                        obtain ⟨u2d, h366, h363⟩ := obind h363
                        obtain ⟨h367, h363⟩ := oguard h363
                        refine Wc.r2 [{ tk := [9] }, {}, {}, { r := some (.v (.str u2d) []) }, { c := some (List.map cS [u2d]) }, { c := some (List.map cS (u14 ++ [u2d])), tk := [104] }, { tk := [109] }] ⟨[tV 1 (.func 43 []), tP 3 3, (9, (.v (.sl (List.map cS (u14 ++ [u2d]))), [(0, .app 9)])), tV 98 (.sl (List.map GTerm.c uc.gKids)), tI 99 (uc.gKids.length : Int), tI 100 u0], [bC 3 (GTerm.q uc)], []⟩ (.cons (ih_pU_write h366) (.cons (cl_cons (c := cS) (x := u2d) rfl (cl_nil cS)) (.cons (app_re2 cS u14 [u2d]) (.cons (app_leaf (c := cS) (ys := [u2d]) cS_leaf) (.cons (app_obl2 (c := cS) (xs := u14) (ys := [u2d]) cS_len h367) .nil))))) ?_
                        refine Wc.r0 ⟨[tV 1 (.func 43 []), tP 3 3, (9, (.v (.sl (List.map cS (u14 ++ [u2d]))), [(0, .app 9)])), tV 98 (.sl (List.map GTerm.c uc.gKids)), tI 99 (uc.gKids.length : Int), tI 100 (wr.i64 (u0 + 1))], [bC 3 (GTerm.q uc)], []⟩ ?_
                        exact ⟨_, Nat.lt_succ_self _, _, _, rfl, h363⟩
                      · refine Wc.cF h364 ?_
                        refine Wc.fx [] ⟨[tP 3 3, (9, (.v (.sl (List.map cS u14)), [(0, .app 9)]))], [bC 3 (GTerm.q uc)], []⟩ ?_
                        refine Wc.exit ?_
                        obtain rfl := oInj h363
                        exact ⟨_, rfl, rfl⟩
                  · rintro st ⟨u8d, rfl, rfl⟩
                    apply Wc.seq
                    obtain ⟨u4v, h368, h⟩ := obind h
                    obtain ⟨h369, h⟩ := oguard h
                    obtain ⟨u6c, h370, h⟩ := obind h
                    obtain ⟨h371, h⟩ := oguard h
                    obtain ⟨h372, h⟩ := oguard h
                    refine Wc.r2 [{}, {}, { r := some (.v (.str u4v) []) }, {}, { tk := [9] }, { r := some (.v (.str u6c) []) }] ⟨[tS 6 (((u4v ++ (bs [40])) ++ u6c) ++ (bs [41]))], [], []⟩ (.cons (cU_AtomText h368) (.cons h369 (.cons (cstrings_Join h370) (.cons h371 (.cons h372 .nil))))) ?_
                    obtain rfl := oInj h; exact Wc.ret dn

mutual
def pU_write : Nat → GTerm → Option ByteArray
  | 0, _ => none
  | k + 1, u35 =>
    (pU_writeWith_on1_pU_write_on2_pU_write_1 k (pU_write k) (pU_write_1 k) u35).bind fun ubi =>
    some ubi
def pU_write_1 : Nat → GTerm → Option ByteArray
  | 0, _ => none
  | k + 1, u2f =>
    (at' u2f.gKids 0).bind fun u8e =>
    (pU_write k u8e).bind fun u36 =>
    if sumOk (bs [40]) u36 then
      if sumOk ((bs [40]) ++ u36) (bs [32]) then
        (pU_signText k u2f.gName).bind fun u46 =>
        if sumOk (((bs [40]) ++ u36) ++ (bs [32])) u46 then
          if sumOk ((((bs [40]) ++ u36) ++ (bs [32])) ++ u46) (bs [32]) then
            (at' u2f.gKids 1).bind fun u8f =>
            (pU_write k u8f).bind fun u6d =>
            if sumOk (((((bs [40]) ++ u36) ++ (bs [32])) ++ u46) ++ (bs [32])) u6d then
              if sumOk ((((((bs [40]) ++ u36) ++ (bs [32])) ++ u46) ++ (bs [32])) ++ u6d) (bs [41]) then
                some (((((((bs [40]) ++ u36) ++ (bs [32])) ++ u46) ++ (bs [32])) ++ u6d) ++ (bs [41]))
              else none
            else none
          else none
        else none
      else none
    else none
end
theorem all_pU_write : ∀ k : Nat, (∀ {u35 : GTerm} {r : ByteArray}, pU_write k u35 = some r → FnO Tryz.prog 43 [.v (.agg (GTerm.q u35)) []] (.v (.str r) []) []) ∧
    (∀ {u2f : GTerm} {r : ByteArray}, pU_write_1 k u2f = some r → FnO Tryz.prog 93 [.v (.agg (GTerm.q u2f)) []] (.v (.str r) []) []) := by
  intro k
  induction k with
  | zero =>
    refine ⟨?_, ?_⟩
    · intro u35 r h
      exact (onone (by rw [pU_write] at h; exact h)).elim
    · intro u2f r h
      exact (onone (by rw [pU_write_1] at h; exact h)).elim
  | succ k ih =>
    obtain ⟨ih_pU_write, ih_pU_write_1⟩ := ih
    refine ⟨?_, ?_⟩
    · intro u35 r h
      rw [pU_write] at h
      refine FnO.o2 Tryz.func43 (rfl : Tryz.f43.body = some _) ?_
      intro w0 X0 Fin pv0 pb gt
      apply Wc.seq
      refine Wc.r0 ⟨[tP 1 1], [bC 1 (GTerm.q u35)], []⟩ ?_
      apply Wc.seq
      obtain ⟨ubi, h375, h⟩ := obind h
      refine Wc.r2 [{}, { r := some (.v (.str ubi) []) }] ⟨[tS 2 ubi], [], []⟩ (.cons (cU_writeWith_on1_pU_write_on2_pU_write_1 (fun h => ih_pU_write h) (fun h => ih_pU_write_1 h) h375) .nil) ?_
      obtain rfl := oInj h; exact Wc.ret dn
    · intro u2f r h
      rw [pU_write_1] at h
      refine FnO.o2 Tryz.func93 (rfl : Tryz.f93.body = some _) ?_
      intro w0 X0 Fin pv0 pb gt
      apply Wc.seq
      refine Wc.r0 ⟨[tP 1 1], [bC 1 (GTerm.q u2f)], []⟩ ?_
      apply Wc.seq
      obtain ⟨u8e, h376, h⟩ := obind h
      obtain ⟨u36, h377, h⟩ := obind h
      obtain ⟨h378, h⟩ := oguard h
      obtain ⟨h379, h⟩ := oguard h
      obtain ⟨u46, h380, h⟩ := obind h
      obtain ⟨h381, h⟩ := oguard h
      obtain ⟨h382, h⟩ := oguard h
      obtain ⟨u8f, h383, h⟩ := obind h
      obtain ⟨u6d, h384, h⟩ := obind h
      obtain ⟨h385, h⟩ := oguard h
      obtain ⟨h386, h⟩ := oguard h
      refine Wc.draw hmix [{}, {}, { v := some (.vptr (GTerm.q u8e)) }, {}, { r := some (.v (.str u36) []) }, {}, {}, {}, {}, { r := some (.v (.str u46) []) }, {}, {}, {}, {}, { v := some (.vptr (GTerm.q u8f)) }, {}, { r := some (.v (.str u6d) []) }] [] [2] [] [] ⟨[tS 2 (((((((bs [40]) ++ u36) ++ (bs [32])) ++ u46) ++ (bs [32])) ++ u6d) ++ (bs [41]))], [], []⟩ _ (by kernel_rfl) (fun X => by kernel_rfl) (.cons (at_obl (c := GTerm.c) (GTerm.c_eq u8e) GTerm.c_len h376) (.cons (len_ok 4 (GTerm.q u8e)) (.cons (ih_pU_write h377) (.cons h378 (.cons h379 (.cons (cU_signText h380) (.cons h381 (.cons h382 (.cons (at_obl (c := GTerm.c) (GTerm.c_eq u8f) GTerm.c_len h383) (.cons (len_ok 4 (GTerm.q u8f)) (.cons (ih_pU_write h384) (.cons h385 (.cons h386 .nil))))))))))))) ?_
      obtain rfl := oInj h; exact Wc.ret dn
theorem cU_write {k : Nat} {u35 : GTerm} {r : ByteArray} (h : pU_write k u35 = some r) : FnO Tryz.prog 43 [.v (.agg (GTerm.q u35)) []] (.v (.str r) []) [] := (all_pU_write k).1 h


def pU_WriteTerm (k : Nat) (u49 : GTerm) : Option ByteArray :=
  (pU_TermOk k u49).bind fun ubr =>
  if (!ubr) = true then
    some (bs [])
  else
    (pU_write k u49).bind fun u2u =>
    some u2u
theorem cU_WriteTerm {k : Nat} {u49 : GTerm} {r : ByteArray} (h : pU_WriteTerm k u49 = some r) : FnO Tryz.prog 10 [.v (.agg (GTerm.q u49)) []] (.v (.str r) []) [] := by
  refine FnO.o2 Tryz.func10 (rfl : Tryz.f10.body = some _) ?_
  intro w0 X0 Fin pv0 pb gt
  unfold pU_WriteTerm at h
  apply Wc.seq
  refine Wc.r0 ⟨[tP 1 1], [bC 1 (GTerm.q u49)], []⟩ ?_
  apply Wc.seq
  apply Wc.seq
  obtain ⟨ubr, h322, h⟩ := obind h
  refine Wc.r2 [{}, { r := some (.v (.bool ubr) []) }] ⟨[tP 1 1, tB 5 (!ubr)], [bC 1 (GTerm.q u49)], []⟩ (.cons (cU_TermOk h322) .nil) ?_
  rcases oif h with ⟨h323, h⟩ | ⟨h323, h⟩
  · refine Wc.cT h323 ?_
    apply Wc.seq
    refine Wc.r0 ⟨[tS 2 (bs [])], [], []⟩ ?_
    obtain rfl := oInj h; exact Wc.ret dn
  · refine Wc.cF h323 ?_
    refine Wc.fx [] ⟨[tP 1 1], [bC 1 (GTerm.q u49)], []⟩ ?_
    refine Wc.skip ?_
    apply Wc.seq
    obtain ⟨u2u, h324, h⟩ := obind h
    refine Wc.r2 [{}, { r := some (.v (.str u2u) []) }] ⟨[tS 2 u2u], [], []⟩ (.cons (cU_write h324) .nil) ?_
    obtain rfl := oInj h; exact Wc.ret dn

def pQ_l05Blank (k : Nat) (u4a : Int) : Option Bool :=
  if (u4a == 32) = true then
    some true
  else
    if (u4a == 9) = true then
      some true
    else
      some (u4a == 10)
theorem cQ_l05Blank {k : Nat} {u4a : Int} {r : Bool} (h : pQ_l05Blank k u4a = some r) : FnO Tryz.prog 95 [.v (.int .u8 u4a) []] (.v (.bool r) []) [] := by
  refine FnO.o2 Tryz.func95 (rfl : Tryz.f95.body = some _) ?_
  intro w0 X0 Fin pv0 pb gt
  unfold pQ_l05Blank at h
  apply Wc.seq
  refine Wc.r0 ⟨[tV 0 (.int .u8 u4a)], [], []⟩ ?_
  apply Wc.seq
  rcases oif h with ⟨h325, h⟩ | ⟨h325, h⟩
  · refine Wc.r2 [{}, {}, { re := some (.bool true) }] ⟨[tB 2 true], [], []⟩ (.cons (congrArg AV.bool h325) .nil) ?_
    obtain rfl := oInj h; exact Wc.ret dn
  · rcases oif h with ⟨h326, h⟩ | ⟨h326, h⟩
    · refine Wc.r2 [{}, {}, { re := some (.bool false) }, {}, {}, {}, { re := some (.bool true) }] ⟨[tB 2 true], [], []⟩ (.cons (congrArg AV.bool h325) (.cons (congrArg AV.bool h326) .nil)) ?_
      obtain rfl := oInj h; exact Wc.ret dn
    · refine Wc.r2 [{}, {}, { re := some (.bool false) }, {}, {}, {}, { re := some (.bool false) }] ⟨[tB 2 (u4a == 10)], [], []⟩ (.cons (congrArg AV.bool h325) (.cons (congrArg AV.bool h326) .nil)) ?_
      obtain rfl := oInj h; exact Wc.ret dn

def pQ_l05Small (k : Nat) (u4z : Int) : Option Bool :=
  if (decide (u4z ≥ 97)) = true then
    some (decide (u4z ≤ 122))
  else
    some false
theorem cQ_l05Small {k : Nat} {u4z : Int} {r : Bool} (h : pQ_l05Small k u4z = some r) : FnO Tryz.prog 158 [.v (.int .u8 u4z) []] (.v (.bool r) []) [] := by
  refine FnO.o2 Tryz.func158 (rfl : Tryz.f158.body = some _) ?_
  intro w0 X0 Fin pv0 pb gt
  unfold pQ_l05Small at h
  apply Wc.seq
  refine Wc.r0 ⟨[tV 0 (.int .u8 u4z)], [], []⟩ ?_
  apply Wc.seq
  rcases oif h with ⟨h327, h⟩ | ⟨h327, h⟩
  · refine Wc.r2 [{}, {}, { re := some (.bool true) }] ⟨[tB 2 (decide (u4z ≤ 122))], [], []⟩ (.cons (congrArg AV.bool h327) .nil) ?_
    obtain rfl := oInj h; exact Wc.ret dn
  · refine Wc.r2 [{}, {}, { re := some (.bool false) }] ⟨[tB 2 false], [], []⟩ (.cons (congrArg AV.bool h327) .nil) ?_
    obtain rfl := oInj h; exact Wc.ret dn

def pQ_l05Great (k : Nat) (u3a : Int) : Option Bool :=
  if (decide (u3a ≥ 65)) = true then
    if (decide (u3a ≤ 90)) = true then
      some true
    else
      some (u3a == 95)
  else
    some (u3a == 95)
theorem cQ_l05Great {k : Nat} {u3a : Int} {r : Bool} (h : pQ_l05Great k u3a = some r) : FnO Tryz.prog 159 [.v (.int .u8 u3a) []] (.v (.bool r) []) [] := by
  refine FnO.o2 Tryz.func159 (rfl : Tryz.f159.body = some _) ?_
  intro w0 X0 Fin pv0 pb gt
  unfold pQ_l05Great at h
  apply Wc.seq
  refine Wc.r0 ⟨[tV 0 (.int .u8 u3a)], [], []⟩ ?_
  apply Wc.seq
  rcases oif h with ⟨h328, h⟩ | ⟨h328, h⟩
  · rcases oif h with ⟨h329, h⟩ | ⟨h329, h⟩
    · refine Wc.r2 [{}, {}, { re := some (.bool true) }, {}, {}, {}, { re := some (.bool true) }] ⟨[tB 2 true], [], []⟩ (.cons (congrArg AV.bool h328) (.cons (congrArg AV.bool h329) .nil)) ?_
      obtain rfl := oInj h; exact Wc.ret dn
    · refine Wc.r2 [{}, {}, { re := some (.bool true) }, {}, {}, {}, { re := some (.bool false) }] ⟨[tB 2 (u3a == 95)], [], []⟩ (.cons (congrArg AV.bool h328) (.cons (congrArg AV.bool h329) .nil)) ?_
      obtain rfl := oInj h; exact Wc.ret dn
  · refine Wc.r2 [{}, {}, { re := some (.bool false) }] ⟨[tB 2 (u3a == 95)], [], []⟩ (.cons (congrArg AV.bool h328) .nil) ?_
    obtain rfl := oInj h; exact Wc.ret dn

def pQ_l05Figure (k : Nat) (u50 : Int) : Option Bool :=
  if (decide (u50 ≥ 48)) = true then
    some (decide (u50 ≤ 57))
  else
    some false
theorem cQ_l05Figure {k : Nat} {u50 : Int} {r : Bool} (h : pQ_l05Figure k u50 = some r) : FnO Tryz.prog 161 [.v (.int .u8 u50) []] (.v (.bool r) []) [] := by
  refine FnO.o2 Tryz.func161 (rfl : Tryz.f161.body = some _) ?_
  intro w0 X0 Fin pv0 pb gt
  unfold pQ_l05Figure at h
  apply Wc.seq
  refine Wc.r0 ⟨[tV 0 (.int .u8 u50)], [], []⟩ ?_
  apply Wc.seq
  rcases oif h with ⟨h330, h⟩ | ⟨h330, h⟩
  · refine Wc.r2 [{}, {}, { re := some (.bool true) }] ⟨[tB 2 (decide (u50 ≤ 57))], [], []⟩ (.cons (congrArg AV.bool h330) .nil) ?_
    obtain rfl := oInj h; exact Wc.ret dn
  · refine Wc.r2 [{}, {}, { re := some (.bool false) }] ⟨[tB 2 false], [], []⟩ (.cons (congrArg AV.bool h330) .nil) ?_
    obtain rfl := oInj h; exact Wc.ret dn

def pQ_l05Word (k : Nat) (u51 : Int) : Option Bool :=
  (pQ_l05Small k u51).bind fun u37 =>
  if u37 = true then
    some true
  else
    (pQ_l05Great k u51).bind fun ubs =>
    if ubs = true then
      some true
    else
      (pQ_l05Figure k u51).bind fun u3q =>
      some u3q
theorem cQ_l05Word {k : Nat} {u51 : Int} {r : Bool} (h : pQ_l05Word k u51 = some r) : FnO Tryz.prog 210 [.v (.int .u8 u51) []] (.v (.bool r) []) [] := by
  refine FnO.o2 Tryz.func210 (rfl : Tryz.f210.body = some _) ?_
  intro w0 X0 Fin pv0 pb gt
  unfold pQ_l05Word at h
  apply Wc.seq
  refine Wc.r0 ⟨[tV 0 (.int .u8 u51)], [], []⟩ ?_
  apply Wc.seq
  obtain ⟨u37, h331, h⟩ := obind h
  rcases oif h with ⟨h332, h⟩ | ⟨h332, h⟩
  · refine Wc.r2 [{}, { r := some (.v (.bool u37) []) }, { re := some (.bool true) }] ⟨[tB 2 true], [], []⟩ (.cons (cQ_l05Small h331) (.cons (congrArg AV.bool h332) .nil)) ?_
    obtain rfl := oInj h; exact Wc.ret dn
  · obtain ⟨ubs, h333, h⟩ := obind h
    rcases oif h with ⟨h334, h⟩ | ⟨h334, h⟩
    · refine Wc.r2 [{}, { r := some (.v (.bool u37) []) }, { re := some (.bool false) }, {}, { r := some (.v (.bool ubs) []) }, {}, { re := some (.bool true) }] ⟨[tB 2 true], [], []⟩ (.cons (cQ_l05Small h331) (.cons (congrArg AV.bool h332) (.cons (cQ_l05Great h333) (.cons (congrArg AV.bool h334) .nil)))) ?_
      obtain rfl := oInj h; exact Wc.ret dn
    · obtain ⟨u3q, h335, h⟩ := obind h
      refine Wc.r2 [{}, { r := some (.v (.bool u37) []) }, { re := some (.bool false) }, {}, { r := some (.v (.bool ubs) []) }, {}, { re := some (.bool false) }, {}, { r := some (.v (.bool u3q) []) }] ⟨[tB 2 u3q], [], []⟩ (.cons (cQ_l05Small h331) (.cons (congrArg AV.bool h332) (.cons (cQ_l05Great h333) (.cons (congrArg AV.bool h334) (.cons (cQ_l05Figure h335) .nil))))) ?_
      obtain rfl := oInj h; exact Wc.ret dn

def pQ_l05Run_L1 (k : Nat) (u17 : ByteArray) : Nat → Int → Option (Out Int Int)
  | 0, _ => none
  | m + 1, u0o =>
    if (decide (u0o < (u17.size : Int))) = true then
      if 0 ≤ u0o ∧ (u0o).toNat < u17.size then
        (pQ_l05Word k (bt u17 u0o)).bind fun ubt =>
        if ubt = true then
          pQ_l05Run_L1 k u17 m (wr.i64 (u0o + 1))
        else
          some (.done u0o)
      else none
    else
      some (.done u0o)
def pQ_l05Run (k : Nat) (u17 : ByteArray) (u8n : Int) : Option Int :=
  (pQ_l05Run_L1 k u17 k u8n).bind fun out1 => match out1 with
  | .ret r => some r
  | .done u6f =>
    some u6f
theorem cQ_l05Run {k : Nat} {u17 : ByteArray} {u8n : Int} {r : Int} (h : pQ_l05Run k u17 u8n = some r) : FnO Tryz.prog 160 [.v (.str u17) [], .v (aI u8n) []] (.v (aI r) []) [] := by
  refine FnO.o2 Tryz.func160 (rfl : Tryz.f160.body = some _) ?_
  intro w0 X0 Fin pv0 pb gt
  unfold pQ_l05Run at h
  apply Wc.seq
  refine Wc.r0 ⟨[tS 0 u17, tI 1 u8n], [], []⟩ ?_
  obtain ⟨out1, h336, h⟩ := obind h
  refine Wc.seqJ (fun st => ∃ (u6f : Int), out1 = .done u6f ∧ st = ⟨[tI 1 u6f], [], []⟩) ?_ ?_
  · refine Wc.block ?_
    refine Wc.loop (fun m st => ∃ (u0o : Int), st = ⟨[tS 0 u17, tI 1 u0o], [], []⟩ ∧ pQ_l05Run_L1 k u17 m u0o = some out1) ?_ k ⟨_, rfl, h336⟩
    rintro m st ⟨u0o, rfl, h336⟩
    cases m with
    | zero => exact (onone h336).elim
    | succ m =>
      apply Wc.seq
      apply Wc.seq
      rcases oif h336 with ⟨h337, h336⟩ | ⟨h337, h336⟩
      · obtain ⟨h338, h336⟩ := oguard h336
        obtain ⟨ubt, h339, h336⟩ := obind h336
        refine Wc.r2 [{}, {}, {}, {}, { re := some (.bool true) }, {}, {}, {}, { r := some (.v (.bool ubt) []) }] ⟨[tS 0 u17, tI 1 u0o, tB 14 ubt], [], []⟩ (.cons (congrArg AV.bool h337) (.cons h338 (.cons (cQ_l05Word h339) .nil))) ?_
        rcases oif h336 with ⟨h340, h336⟩ | ⟨h340, h336⟩
        · refine Wc.cT h340 ?_
          refine Wc.fx [] ⟨[tS 0 u17, tI 1 u0o], [], []⟩ ?_
          refine Wc.skip ?_
          refine Wc.block ?_
          refine Wc.r0 ⟨[tS 0 u17, tI 1 (wr.i64 (u0o + 1))], [], []⟩ ?_
          exact ⟨_, Nat.lt_succ_self _, _, rfl, h336⟩
        · refine Wc.cF h340 ?_
          refine Wc.fx [] ⟨[tI 1 u0o], [], []⟩ ?_
          refine Wc.exit ?_
          obtain rfl := oInj h336
          exact ⟨_, rfl, rfl⟩
      · refine Wc.r2 [{}, {}, {}, {}, { re := some (.bool false) }] ⟨[tS 0 u17, tI 1 u0o, tB 14 false], [], []⟩ (.cons (congrArg AV.bool h337) .nil) ?_
        refine Wc.cF rfl ?_
        refine Wc.fx [] ⟨[tI 1 u0o], [], []⟩ ?_
        refine Wc.exit ?_
        obtain rfl := oInj h336
        exact ⟨_, rfl, rfl⟩
  · rintro st ⟨u6f, rfl, rfl⟩
    apply Wc.seq
    refine Wc.r0 ⟨[tI 4 u6f], [], []⟩ ?_
    obtain rfl := oInj h; exact Wc.ret dn

def pQ_l05Quoted_L1 (k : Nat) (v6 : ByteArray) (vb : Int) : Nat → Int → Option (Out Int Unit)
  | 0, _ => none
  | m + 1, zq =>
    if (decide (zq < (v6.size : Int))) = true then
      if 0 ≤ zq ∧ (zq).toNat < v6.size then
        if ((bt v6 zq) == 39) = true then
          if 0 ≤ (wr.i64 (vb + 1)) ∧ (wr.i64 (vb + 1)) ≤ zq ∧ zq ≤ (v6.size : Int) then
            (pQ_l03Name k (v6.extract ((wr.i64 (vb + 1)) : Int).toNat (zq : Int).toNat)).bind fun ubu =>
            if ubu = true then
              some (.ret (wr.i64 (zq + 1)))
            else
              some (.ret 0)
          else none
        else
          pQ_l05Quoted_L1 k v6 vb m (wr.i64 (zq + 1))
      else none
    else
      some (.done ())
def pQ_l05Quoted (k : Nat) (v6 : ByteArray) (vb : Int) : Option Int :=
  (pQ_l05Quoted_L1 k v6 vb k (wr.i64 (vb + 1))).bind fun out1 => match out1 with
  | .ret r => some r
  | .done () =>
    some 0
theorem cQ_l05Quoted {k : Nat} {v6 : ByteArray} {vb : Int} {r : Int} (h : pQ_l05Quoted k v6 vb = some r) : FnO Tryz.prog 162 [.v (.str v6) [], .v (aI vb) []] (.v (aI r) []) [] := by
  refine FnO.o2 Tryz.func162 (rfl : Tryz.f162.body = some _) ?_
  intro w0 X0 Fin pv0 pb gt
  unfold pQ_l05Quoted at h
  apply Wc.seq
  refine Wc.r0 ⟨[tS 0 v6, tI 1 vb], [], []⟩ ?_
  apply Wc.seq
  apply Wc.seq
  refine Wc.r0 ⟨[tS 0 v6, tI 1 vb, tI 5 (wr.i64 (vb + 1))], [], []⟩ ?_
  obtain ⟨out1, h341, h⟩ := obind h
  refine Wc.lastJ (fun st => out1 = .done () ∧ st = ⟨[], [], []⟩) ?_ ?_
  · refine Wc.block ?_
    refine Wc.loop (fun m st => ∃ (zq : Int), st = ⟨[tS 0 v6, tI 1 vb, tI 5 zq], [], []⟩ ∧ pQ_l05Quoted_L1 k v6 vb m zq = some out1) ?_ k ⟨_, rfl, h341⟩
    rintro m st ⟨zq, rfl, h341⟩
    cases m with
    | zero => exact (onone h341).elim
    | succ m =>
      apply Wc.seq
      apply Wc.seq
      refine Wc.r0 ⟨[tS 0 v6, tI 1 vb, tI 5 zq, tB 11 (decide (zq < (v6.size : Int)))], [], []⟩ ?_
      rcases oif h341 with ⟨h342, h341⟩ | ⟨h342, h341⟩
      · refine Wc.cT h342 ?_
        refine Wc.fx [] ⟨[tS 0 v6, tI 1 vb, tI 5 zq], [], []⟩ ?_
        refine Wc.skip ?_
        apply Wc.seq
        refine Wc.block ?_
        apply Wc.seq
        obtain ⟨h343, h341⟩ := oguard h341
        refine Wc.r2 [] ⟨[tS 0 v6, tI 1 vb, tI 5 zq, tB 17 ((bt v6 zq) == 39)], [], []⟩ (.cons h343 .nil) ?_
        rcases oif h341 with ⟨h344, h341⟩ | ⟨h344, h341⟩
        · refine Wc.cT h344 ?_
          apply Wc.seq
          apply Wc.seq
          obtain ⟨h345, h341⟩ := oguard h341
          obtain ⟨ubu, h346, h341⟩ := obind h341
          refine Wc.r2 [{}, {}, {}, {}, {}, { r := some (.v (.bool ubu) []) }] ⟨[tI 5 zq, tB 23 ubu], [], []⟩ (.cons h345 (.cons (cQ_l03Name h346) .nil)) ?_
          rcases oif h341 with ⟨h347, h341⟩ | ⟨h347, h341⟩
          · refine Wc.cT h347 ?_
            apply Wc.seq
            refine Wc.r0 ⟨[tI 4 (wr.i64 (zq + 1))], [], []⟩ ?_
            refine Wc.ret ?_
            obtain rfl := oInj h341
            obtain rfl := oInj h
            exact ⟨.inl rfl, by kernel_rfl, by kernel_rfl⟩
          · refine Wc.cF h347 ?_
            refine Wc.fx [] ⟨[], [], []⟩ ?_
            refine Wc.skip ?_
            apply Wc.seq
            refine Wc.r0 ⟨[tI 4 0], [], []⟩ ?_
            refine Wc.ret ?_
            obtain rfl := oInj h341
            obtain rfl := oInj h
            exact ⟨.inl rfl, by kernel_rfl, by kernel_rfl⟩
        · refine Wc.cF h344 ?_
          refine Wc.fx [] ⟨[tS 0 v6, tI 1 vb, tI 5 zq], [], []⟩ ?_
          refine Wc.skip ?_
          refine Wc.r0 ⟨[tS 0 v6, tI 1 vb, tI 5 (wr.i64 (zq + 1))], [], []⟩ ?_
          exact ⟨_, Nat.lt_succ_self _, _, rfl, h341⟩
      · refine Wc.cF h342 ?_
        refine Wc.fx [] ⟨[], [], []⟩ ?_
        refine Wc.exit ?_
        obtain rfl := oInj h341
        exact ⟨rfl, rfl⟩
  · rintro st ⟨rfl, rfl⟩
    apply Wc.seq
    refine Wc.r0 ⟨[tI 4 0], [], []⟩ ?_
    obtain rfl := oInj h; exact Wc.ret dn

def pQ_SymbolByte_L1 (k : Nat) (u0d : Int) : Nat → Int → Option (Out Bool Unit)
  | 0, _ => none
  | m + 1, u18 =>
    if (decide (u18 < ((bs [43, 45, 42, 47, 92, 94, 60, 62, 61, 126, 58, 46, 63, 64, 35, 38, 36]).size : Int))) = true then
      if 0 ≤ u18 ∧ (u18).toNat < (bs [43, 45, 42, 47, 92, 94, 60, 62, 61, 126, 58, 46, 63, 64, 35, 38, 36]).size then
        if ((bt (bs [43, 45, 42, 47, 92, 94, 60, 62, 61, 126, 58, 46, 63, 64, 35, 38, 36]) u18) == u0d) = true then
          some (.ret true)
        else
          pQ_SymbolByte_L1 k u0d m (wr.i64 (u18 + 1))
      else none
    else
      some (.done ())
def pQ_SymbolByte (k : Nat) (u0d : Int) : Option Bool :=
  (pQ_SymbolByte_L1 k u0d k 0).bind fun out1 => match out1 with
  | .ret r => some r
  | .done () =>
    some false
theorem cQ_SymbolByte {k : Nat} {u0d : Int} {r : Bool} (h : pQ_SymbolByte k u0d = some r) : FnO Tryz.prog 164 [.v (.int .u8 u0d) []] (.v (.bool r) []) [] := by
  refine FnO.o2 Tryz.func164 (rfl : Tryz.f164.body = some _) ?_
  intro w0 X0 Fin pv0 pb gt
  unfold pQ_SymbolByte at h
  apply Wc.seq
  refine Wc.r0 ⟨[tV 0 (.int .u8 u0d)], [], []⟩ ?_
  apply Wc.seq
  refine Wc.r0 ⟨[tV 0 (.int .u8 u0d), tS 3 (bs [43, 45, 42, 47, 92, 94, 60, 62, 61, 126, 58, 46, 63, 64, 35, 38, 36])], [], []⟩ ?_
  apply Wc.seq
  apply Wc.seq
  refine Wc.r0 ⟨[tV 0 (.int .u8 u0d), tS 3 (bs [43, 45, 42, 47, 92, 94, 60, 62, 61, 126, 58, 46, 63, 64, 35, 38, 36]), tI 4 0], [], []⟩ ?_
  obtain ⟨out1, h348, h⟩ := obind h
  refine Wc.lastJ (fun st => out1 = .done () ∧ st = ⟨[], [], []⟩) ?_ ?_
  · refine Wc.block ?_
    refine Wc.loop (fun m st => ∃ (u18 : Int), st = ⟨[tV 0 (.int .u8 u0d), tS 3 (bs [43, 45, 42, 47, 92, 94, 60, 62, 61, 126, 58, 46, 63, 64, 35, 38, 36]), tI 4 u18], [], []⟩ ∧ pQ_SymbolByte_L1 k u0d m u18 = some out1) ?_ k ⟨_, rfl, h348⟩
    rintro m st ⟨u18, rfl, h348⟩
    cases m with
    | zero => exact (onone h348).elim
    | succ m =>
      apply Wc.seq
      apply Wc.seq
      refine Wc.r0 ⟨[tV 0 (.int .u8 u0d), tS 3 (bs [43, 45, 42, 47, 92, 94, 60, 62, 61, 126, 58, 46, 63, 64, 35, 38, 36]), tI 4 u18, tB 8 (decide (u18 < ((bs [43, 45, 42, 47, 92, 94, 60, 62, 61, 126, 58, 46, 63, 64, 35, 38, 36]).size : Int)))], [], []⟩ ?_
      rcases oif h348 with ⟨h349, h348⟩ | ⟨h349, h348⟩
      · refine Wc.cT h349 ?_
        refine Wc.fx [] ⟨[tV 0 (.int .u8 u0d), tS 3 (bs [43, 45, 42, 47, 92, 94, 60, 62, 61, 126, 58, 46, 63, 64, 35, 38, 36]), tI 4 u18], [], []⟩ ?_
        refine Wc.skip ?_
        apply Wc.seq
        refine Wc.block ?_
        apply Wc.seq
        obtain ⟨h350, h348⟩ := oguard h348
        refine Wc.r2 [] ⟨[tV 0 (.int .u8 u0d), tS 3 (bs [43, 45, 42, 47, 92, 94, 60, 62, 61, 126, 58, 46, 63, 64, 35, 38, 36]), tI 4 u18, tB 15 ((bt (bs [43, 45, 42, 47, 92, 94, 60, 62, 61, 126, 58, 46, 63, 64, 35, 38, 36]) u18) == u0d)], [], []⟩ (.cons h350 .nil) ?_
        rcases oif h348 with ⟨h351, h348⟩ | ⟨h351, h348⟩
        · refine Wc.cT h351 ?_
          apply Wc.seq
          refine Wc.r0 ⟨[tB 2 true], [], []⟩ ?_
          refine Wc.ret ?_
          obtain rfl := oInj h348
          obtain rfl := oInj h
          exact ⟨.inl rfl, by kernel_rfl, by kernel_rfl⟩
        · refine Wc.cF h351 ?_
          refine Wc.fx [] ⟨[tV 0 (.int .u8 u0d), tS 3 (bs [43, 45, 42, 47, 92, 94, 60, 62, 61, 126, 58, 46, 63, 64, 35, 38, 36]), tI 4 u18], [], []⟩ ?_
          refine Wc.skip ?_
          refine Wc.r0 ⟨[tV 0 (.int .u8 u0d), tS 3 (bs [43, 45, 42, 47, 92, 94, 60, 62, 61, 126, 58, 46, 63, 64, 35, 38, 36]), tI 4 (wr.i64 (u18 + 1))], [], []⟩ ?_
          exact ⟨_, Nat.lt_succ_self _, _, rfl, h348⟩
      · refine Wc.cF h349 ?_
        refine Wc.fx [] ⟨[], [], []⟩ ?_
        refine Wc.exit ?_
        obtain rfl := oInj h348
        exact ⟨rfl, rfl⟩
  · rintro st ⟨rfl, rfl⟩
    apply Wc.seq
    refine Wc.r0 ⟨[tB 2 false], [], []⟩ ?_
    obtain rfl := oInj h; exact Wc.ret dn

def pQ_l05End (k : Nat) (vy : ByteArray) (vz : Int) : Option Bool :=
  if 0 ≤ vz ∧ (vz).toNat < vy.size then
    if ((bt vy vz) == 46) = true then
      if (vz == 0) = true then
        if ((wr.i64 (vz + 1)) == (vy.size : Int)) = true then
          some true
        else
          if 0 ≤ wr.i64 (vz + 1) ∧ (wr.i64 (vz + 1)).toNat < vy.size then
            (pQ_l05Blank k (bt vy (wr.i64 (vz + 1)))).bind fun u15 =>
            if u15 = true then
              some true
            else
              if 0 ≤ wr.i64 (vz + 1) ∧ (wr.i64 (vz + 1)).toNat < vy.size then
                some ((bt vy (wr.i64 (vz + 1))) == 37)
              else none
          else none
      else
        if 0 ≤ wr.i64 (vz - 1) ∧ (wr.i64 (vz - 1)).toNat < vy.size then
          (pQ_SymbolByte k (bt vy (wr.i64 (vz - 1)))).bind fun u15 =>
          if (!u15) = true then
            if ((wr.i64 (vz + 1)) == (vy.size : Int)) = true then
              some true
            else
              if 0 ≤ wr.i64 (vz + 1) ∧ (wr.i64 (vz + 1)).toNat < vy.size then
                (pQ_l05Blank k (bt vy (wr.i64 (vz + 1)))).bind fun ubv =>
                if ubv = true then
                  some true
                else
                  if 0 ≤ wr.i64 (vz + 1) ∧ (wr.i64 (vz + 1)).toNat < vy.size then
                    some ((bt vy (wr.i64 (vz + 1))) == 37)
                  else none
              else none
          else
            some false
        else none
    else
      some false
  else none
theorem cQ_l05End {k : Nat} {vy : ByteArray} {vz : Int} {r : Bool} (h : pQ_l05End k vy vz = some r) : FnO Tryz.prog 163 [.v (.str vy) [], .v (aI vz) []] (.v (.bool r) []) [] := by
  refine FnO.o2 Tryz.func163 (rfl : Tryz.f163.body = some _) ?_
  intro w0 X0 Fin pv0 pb gt
  unfold pQ_l05End at h
  apply Wc.seq
  refine Wc.r0 ⟨[tS 0 vy, tI 1 vz], [], []⟩ ?_
  apply Wc.seq
  obtain ⟨h352, h⟩ := oguard h
  rcases oif h with ⟨h353, h⟩ | ⟨h353, h⟩
  · rcases oif h with ⟨h354, h⟩ | ⟨h354, h⟩
    · rcases oif h with ⟨h355, h⟩ | ⟨h355, h⟩
      · refine Wc.r2 [{}, {}, {}, {}, { re := some (.bool true) }, {}, {}, { re := some (.bool true) }, {}, {}, {}, {}, {}, {}, {}, {}, {}, {}, {}, {}, {}, {}, { re := some (.bool true) }] ⟨[tB 4 true], [], []⟩ (.cons h352 (.cons (congrArg AV.bool h353) (.cons (congrArg AV.bool h354) (.cons (congrArg AV.bool h355) .nil)))) ?_
        obtain rfl := oInj h; exact Wc.ret dn
      · obtain ⟨h356, h⟩ := oguard h
        obtain ⟨u15, h357, h⟩ := obind h
        rcases oif h with ⟨h358, h⟩ | ⟨h358, h⟩
        · refine Wc.r2 [{}, {}, {}, {}, { re := some (.bool true) }, {}, {}, { re := some (.bool true) }, {}, {}, {}, {}, {}, {}, {}, {}, {}, {}, {}, {}, {}, {}, { re := some (.bool false) }, {}, {}, {}, {}, { r := some (.v (.bool u15) []) }, {}, { re := some (.bool true) }] ⟨[tB 4 true], [], []⟩ (.cons h352 (.cons (congrArg AV.bool h353) (.cons (congrArg AV.bool h354) (.cons (congrArg AV.bool h355) (.cons h356 (.cons (cQ_l05Blank h357) (.cons (congrArg AV.bool h358) .nil))))))) ?_
          obtain rfl := oInj h; exact Wc.ret dn
        · obtain ⟨h359, h⟩ := oguard h
          refine Wc.r2 [{}, {}, {}, {}, { re := some (.bool true) }, {}, {}, { re := some (.bool true) }, {}, {}, {}, {}, {}, {}, {}, {}, {}, {}, {}, {}, {}, {}, { re := some (.bool false) }, {}, {}, {}, {}, { r := some (.v (.bool u15) []) }, {}, { re := some (.bool false) }] ⟨[tB 4 ((bt vy (wr.i64 (vz + 1))) == 37)], [], []⟩ (.cons h352 (.cons (congrArg AV.bool h353) (.cons (congrArg AV.bool h354) (.cons (congrArg AV.bool h355) (.cons h356 (.cons (cQ_l05Blank h357) (.cons (congrArg AV.bool h358) (.cons h359 .nil)))))))) ?_
          obtain rfl := oInj h; exact Wc.ret dn
    · obtain ⟨h355, h⟩ := oguard h
      obtain ⟨u15, h356, h⟩ := obind h
      rcases oif h with ⟨h357, h⟩ | ⟨h357, h⟩
      · rcases oif h with ⟨h358, h⟩ | ⟨h358, h⟩
        · refine Wc.r2 [{}, {}, {}, {}, { re := some (.bool true) }, {}, {}, { re := some (.bool false) }, {}, {}, {}, {}, { r := some (.v (.bool u15) []) }, {}, {}, {}, { re := some (.bool true) }, {}, {}, {}, {}, {}, { re := some (.bool true) }] ⟨[tB 4 true], [], []⟩ (.cons h352 (.cons (congrArg AV.bool h353) (.cons (congrArg AV.bool h354) (.cons h355 (.cons (cQ_SymbolByte h356) (.cons (congrArg AV.bool h357) (.cons (congrArg AV.bool h358) .nil))))))) ?_
          obtain rfl := oInj h; exact Wc.ret dn
        · obtain ⟨h359, h⟩ := oguard h
          obtain ⟨ubv, h360, h⟩ := obind h
          rcases oif h with ⟨h361, h⟩ | ⟨h361, h⟩
          · refine Wc.r2 [{}, {}, {}, {}, { re := some (.bool true) }, {}, {}, { re := some (.bool false) }, {}, {}, {}, {}, { r := some (.v (.bool u15) []) }, {}, {}, {}, { re := some (.bool true) }, {}, {}, {}, {}, {}, { re := some (.bool false) }, {}, {}, {}, {}, { r := some (.v (.bool ubv) []) }, {}, { re := some (.bool true) }] ⟨[tB 4 true], [], []⟩ (.cons h352 (.cons (congrArg AV.bool h353) (.cons (congrArg AV.bool h354) (.cons h355 (.cons (cQ_SymbolByte h356) (.cons (congrArg AV.bool h357) (.cons (congrArg AV.bool h358) (.cons h359 (.cons (cQ_l05Blank h360) (.cons (congrArg AV.bool h361) .nil)))))))))) ?_
            obtain rfl := oInj h; exact Wc.ret dn
          · obtain ⟨h362, h⟩ := oguard h
            refine Wc.r2 [{}, {}, {}, {}, { re := some (.bool true) }, {}, {}, { re := some (.bool false) }, {}, {}, {}, {}, { r := some (.v (.bool u15) []) }, {}, {}, {}, { re := some (.bool true) }, {}, {}, {}, {}, {}, { re := some (.bool false) }, {}, {}, {}, {}, { r := some (.v (.bool ubv) []) }, {}, { re := some (.bool false) }] ⟨[tB 4 ((bt vy (wr.i64 (vz + 1))) == 37)], [], []⟩ (.cons h352 (.cons (congrArg AV.bool h353) (.cons (congrArg AV.bool h354) (.cons h355 (.cons (cQ_SymbolByte h356) (.cons (congrArg AV.bool h357) (.cons (congrArg AV.bool h358) (.cons h359 (.cons (cQ_l05Blank h360) (.cons (congrArg AV.bool h361) (.cons h362 .nil))))))))))) ?_
            obtain rfl := oInj h; exact Wc.ret dn
      · refine Wc.r2 [{}, {}, {}, {}, { re := some (.bool true) }, {}, {}, { re := some (.bool false) }, {}, {}, {}, {}, { r := some (.v (.bool u15) []) }, {}, {}, {}, { re := some (.bool false) }] ⟨[tB 4 false], [], []⟩ (.cons h352 (.cons (congrArg AV.bool h353) (.cons (congrArg AV.bool h354) (.cons h355 (.cons (cQ_SymbolByte h356) (.cons (congrArg AV.bool h357) .nil)))))) ?_
        obtain rfl := oInj h; exact Wc.ret dn
  · refine Wc.r2 [{}, {}, {}, {}, { re := some (.bool false) }] ⟨[tB 4 false], [], []⟩ (.cons h352 (.cons (congrArg AV.bool h353) .nil)) ?_
    obtain rfl := oInj h; exact Wc.ret dn
end Go.Proofs.YtipjloclobcpkaaGreatDoor

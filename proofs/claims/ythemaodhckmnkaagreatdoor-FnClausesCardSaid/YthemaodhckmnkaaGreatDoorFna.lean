/- What the functions do, part 1. -/
import Derived.Test.YthemaodhckmnkaaGreatDoorTy
set_option linter.unusedVariables false
set_option linter.unusedSimpArgs false
namespace Go.Proofs.YthemaodhckmnkaaGreatDoor
open Go.RowKit Go.Bv
def plaws_big (k : Nat) (u59 : List Int) : Option Bool :=
  some (decide ((u59.length : Int) > 1048576))
theorem claws_big {k : Nat} {u59 : List Int} {r : Bool} (h : plaws_big k u59 = some r) : FnO Tryz.prog 4 [.v (.sl (List.map cI.u8 u59)) []] (.v (.bool r) []) [] := by
  refine FnO.o2 Tryz.func4 (rfl : Tryz.f4.body = some _) ?_
  intro w0 X0 Fin pv0 pb gt
  unfold plaws_big at h
  apply Wc.seq
  refine Wc.r0 ⟨[tV 0 (.sl (List.map cI.u8 u59))], [], []⟩ ?_
  apply Wc.seq
  refine Wc.r2 [{}, { v := some (aI (u59.length : Int)) }] ⟨[tB 2 (decide ((u59.length : Int) > 1048576))], [], []⟩ (.cons (len_obl cI.u8 u59) .nil) ?_
  obtain rfl := Option.some.inj h; exact Wc.ret dn

def pspec_l03Count_L1 (k : Nat) (rspec_l03Count : GTerm → Int → Option Int) (z7 : GTerm) : Nat → Int → Int → Option (Out Int Int)
  | 0, _, _ => none
  | m + 1, u2s, u3k =>
    if (decide (u3k < (z7.gKids.length : Int))) = true then
      if (decide (u2s ≥ 0)) = true then
        (at' z7.gKids u3k).bind fun u8f =>
        (rspec_l03Count u8f u2s).bind fun u8g =>
        pspec_l03Count_L1 k rspec_l03Count z7 m u8g (wr.i64 (u3k + 1))
      else
        some (.done u2s)
    else
      some (.done u2s)
mutual
def pspec_l03Count : Nat → GTerm → Int → Option Int
  | 0, _, _ => none
  | k + 1, z7, u3l =>
    (pspec_l03Count_L1 k (pspec_l03Count k) z7 k (wr.i64 (u3l - 1)) 0).bind fun out1 => match out1 with
    | .ret r => some r
    | .done u6m =>
      some u6m
end
theorem all_pspec_l03Count : ∀ k : Nat, (∀ {z7 : GTerm} {u3l : Int} {r : Int}, pspec_l03Count k z7 u3l = some r → FnO Tryz.prog 65 [.v (.agg (GTerm.q z7)) [], .v (aI u3l) []] (.v (aI r) []) []) := by
  intro k
  induction k with
  | zero =>
    · intro z7 u3l r h
      exact (onone (by rw [pspec_l03Count] at h; exact h)).elim
  | succ k ih =>
    have ih_pspec_l03Count := @ih
    · intro z7 u3l r h
      rw [pspec_l03Count] at h
      refine FnO.o2 Tryz.func65 (rfl : Tryz.f65.body = some _) ?_
      intro w0 X0 Fin pv0 pb gt
      apply Wc.seq
      refine Wc.r0 ⟨[tI 1 u3l, tP 2 2], [bC 2 (GTerm.q z7)], []⟩ ?_
      apply Wc.seq
      refine Wc.r0 ⟨[tI 1 (wr.i64 (u3l - 1)), tP 2 2], [bC 2 (GTerm.q z7)], []⟩ ?_
      apply Wc.seq
      apply Wc.seq
      refine Wc.r0 ⟨[tI 1 (wr.i64 (u3l - 1)), tP 2 2, tI 5 0], [bC 2 (GTerm.q z7)], []⟩ ?_
      obtain ⟨out1, h1, h⟩ := obind h
      refine Wc.lastJ (fun st => ∃ (u6m : Int), out1 = .done u6m ∧ st = ⟨[tI 1 u6m], [], []⟩) ?_ ?_
      · refine Wc.block ?_
        refine Wc.loop (fun m st => ∃ (u2s : Int) (u3k : Int), st = ⟨[tI 1 u2s, tP 2 2, tI 5 u3k], [bC 2 (GTerm.q z7)], []⟩ ∧ pspec_l03Count_L1 k (pspec_l03Count k) z7 m u2s u3k = some out1) ?_ k ⟨_, _, rfl, h1⟩
        rintro m st ⟨u2s, u3k, rfl, h1⟩
        cases m with
        | zero => exact (onone h1).elim
        | succ m =>
          apply Wc.seq
          apply Wc.seq
          rcases oif h1 with ⟨h2, h1⟩ | ⟨h2, h1⟩
          · refine Wc.r2 [{}, {}, {}, { v := some (aI (z7.gKids.length : Int)) }, {}, { re := some (.bool true) }] ⟨[tI 1 u2s, tP 2 2, tI 5 u3k, tB 16 (decide (u2s ≥ 0))], [bC 2 (GTerm.q z7)], []⟩ (.cons (len_obl GTerm.c z7.gKids) (.cons (congrArg AV.bool h2) .nil)) ?_
            rcases oif h1 with ⟨h3, h1⟩ | ⟨h3, h1⟩
            · refine Wc.cT h3 ?_
              refine Wc.fx [] ⟨[tI 1 u2s, tP 2 2, tI 5 u3k], [bC 2 (GTerm.q z7)], []⟩ ?_
              refine Wc.skip ?_
              apply Wc.seq
              refine Wc.block ?_
              obtain ⟨u8f, h4, h1⟩ := obind h1
              obtain ⟨u8g, h5, h1⟩ := obind h1
              refine Wc.r2 [{}, {}, {}, { v := some (.vptr (GTerm.q u8f)) }, {}, {}, { r := some (.v (aI u8g) []) }] ⟨[tI 1 u8g, tP 2 2, tI 5 u3k], [bC 2 (GTerm.q z7)], []⟩ (.cons (at_obl (c := GTerm.c) (GTerm.c_eq u8f) GTerm.c_len h4) (.cons (len_ok 4 (GTerm.q u8f)) (.cons (ih_pspec_l03Count h5) .nil))) ?_
              refine Wc.r0 ⟨[tI 1 u8g, tP 2 2, tI 5 (wr.i64 (u3k + 1))], [bC 2 (GTerm.q z7)], []⟩ ?_
              exact ⟨_, Nat.lt_succ_self _, _, _, rfl, h1⟩
            · refine Wc.cF h3 ?_
              refine Wc.fx [] ⟨[tI 1 u2s], [], []⟩ ?_
              refine Wc.exit ?_
              obtain rfl := Option.some.inj h1
              exact ⟨_, rfl, rfl⟩
          · refine Wc.r2 [{}, {}, {}, { v := some (aI (z7.gKids.length : Int)) }, {}, { re := some (.bool false) }] ⟨[tI 1 u2s, tP 2 2, tI 5 u3k, tB 16 false], [bC 2 (GTerm.q z7)], []⟩ (.cons (len_obl GTerm.c z7.gKids) (.cons (congrArg AV.bool h2) .nil)) ?_
            refine Wc.cF rfl ?_
            refine Wc.fx [] ⟨[tI 1 u2s], [], []⟩ ?_
            refine Wc.exit ?_
            obtain rfl := Option.some.inj h1
            exact ⟨_, rfl, rfl⟩
      · rintro st ⟨u6m, rfl, rfl⟩
        apply Wc.seq
        refine Wc.r0 ⟨[tI 4 u6m], [], []⟩ ?_
        obtain rfl := Option.some.inj h; exact Wc.ret dn
theorem cspec_l03Count {k : Nat} {z7 : GTerm} {u3l : Int} {r : Int} (h : pspec_l03Count k z7 u3l = some r) : FnO Tryz.prog 65 [.v (.agg (GTerm.q z7)) [], .v (aI u3l) []] (.v (aI r) []) [] := (all_pspec_l03Count k) h

def pspec_l01In (k : Nat) (u5r : Int) (u8h : Int) (u6n : Int) : Option Bool :=
  if (decide (u5r ≥ u8h)) = true then
    some (decide (u5r ≤ u6n))
  else
    some false
theorem cspec_l01In {k : Nat} {u5r : Int} {u8h : Int} {u6n : Int} {r : Bool} (h : pspec_l01In k u5r u8h u6n = some r) : FnO Tryz.prog 93 [.v (aI u5r) [], .v (aI u8h) [], .v (aI u6n) []] (.v (.bool r) []) [] := by
  refine FnO.o2 Tryz.func93 (rfl : Tryz.f93.body = some _) ?_
  intro w0 X0 Fin pv0 pb gt
  unfold pspec_l01In at h
  apply Wc.seq
  refine Wc.r0 ⟨[tI 0 u5r, tI 1 u8h, tI 2 u6n], [], []⟩ ?_
  apply Wc.seq
  rcases oif h with ⟨h6, h⟩ | ⟨h6, h⟩
  · refine Wc.r2 [{}, {}, {}, { re := some (.bool true) }] ⟨[tB 6 (decide (u5r ≤ u6n))], [], []⟩ (.cons (congrArg AV.bool h6) .nil) ?_
    obtain rfl := Option.some.inj h; exact Wc.ret dn
  · refine Wc.r2 [{}, {}, {}, { re := some (.bool false) }] ⟨[tB 6 false], [], []⟩ (.cons (congrArg AV.bool h6) .nil) ?_
    obtain rfl := Option.some.inj h; exact Wc.ret dn

def pspec_l03Name_L1 (k : Nat) (vg : ByteArray) : Nat → Int → Option (Out Bool Unit)
  | 0, _ => none
  | m + 1, z1 =>
    if (decide (z1 < (vg.size : Int))) = true then
      if 0 ≤ z1 ∧ (z1).toNat < vg.size then
        if (decide ((bt vg z1) < 33)) = true then
          some (.ret false)
        else
          if 0 ≤ z1 ∧ (z1).toNat < vg.size then
            if (decide ((bt vg z1) > 126)) = true then
              some (.ret false)
            else
              if 0 ≤ z1 ∧ (z1).toNat < vg.size then
                if ((bt vg z1) == 39) = true then
                  some (.ret false)
                else
                  if 0 ≤ z1 ∧ (z1).toNat < vg.size then
                    if ((bt vg z1) == 34) = true then
                      some (.ret false)
                    else
                      pspec_l03Name_L1 k vg m (wr.i64 (z1 + 1))
                  else none
              else none
          else none
      else none
    else
      some (.done ())
def pspec_l03Name (k : Nat) (vg : ByteArray) : Option Bool :=
  (pspec_l03Name_L1 k vg k 0).bind fun out1 => match out1 with
  | .ret r => some r
  | .done () =>
    (pspec_l01In k (vg.size : Int) 1 20).bind fun ubj =>
    some ubj
theorem cspec_l03Name {k : Nat} {vg : ByteArray} {r : Bool} (h : pspec_l03Name k vg = some r) : FnO Tryz.prog 102 [.v (.str vg) []] (.v (.bool r) []) [] := by
  refine FnO.o2 Tryz.func102 (rfl : Tryz.f102.body = some _) ?_
  intro w0 X0 Fin pv0 pb gt
  unfold pspec_l03Name at h
  apply Wc.seq
  refine Wc.r0 ⟨[tS 0 vg], [], []⟩ ?_
  apply Wc.seq
  apply Wc.seq
  refine Wc.r0 ⟨[tS 0 vg, tI 3 0], [], []⟩ ?_
  obtain ⟨out1, h7, h⟩ := obind h
  refine Wc.lastJ (fun st => out1 = .done () ∧ st = ⟨[tS 0 vg], [], []⟩) ?_ ?_
  · refine Wc.block ?_
    refine Wc.loop (fun m st => ∃ (z1 : Int), st = ⟨[tS 0 vg, tI 3 z1], [], []⟩ ∧ pspec_l03Name_L1 k vg m z1 = some out1) ?_ k ⟨_, rfl, h7⟩
    rintro m st ⟨z1, rfl, h7⟩
    cases m with
    | zero => exact (onone h7).elim
    | succ m =>
      apply Wc.seq
      apply Wc.seq
      refine Wc.r0 ⟨[tS 0 vg, tI 3 z1, tB 7 (decide (z1 < (vg.size : Int)))], [], []⟩ ?_
      rcases oif h7 with ⟨h8, h7⟩ | ⟨h8, h7⟩
      · refine Wc.cT h8 ?_
        refine Wc.fx [] ⟨[tS 0 vg, tI 3 z1], [], []⟩ ?_
        refine Wc.skip ?_
        apply Wc.seq
        refine Wc.block ?_
        apply Wc.seq
        obtain ⟨h9, h7⟩ := oguard h7
        rcases oif h7 with ⟨h10, h7⟩ | ⟨h10, h7⟩
        · refine Wc.r2 [{}, {}, {}, {}, { re := some (.bool true) }] ⟨[tS 0 vg, tI 3 z1, tB 31 true], [], []⟩ (.cons h9 (.cons (congrArg AV.bool h10) .nil)) ?_
          refine Wc.cT rfl ?_
          apply Wc.seq
          refine Wc.r0 ⟨[tB 2 false], [], []⟩ ?_
          refine Wc.ret ?_
          obtain rfl := Option.some.inj h7
          obtain rfl := Option.some.inj h
          exact ⟨.inl rfl, by kernel_rfl, by kernel_rfl⟩
        · obtain ⟨h11, h7⟩ := oguard h7
          rcases oif h7 with ⟨h12, h7⟩ | ⟨h12, h7⟩
          · refine Wc.r2 [{}, {}, {}, {}, { re := some (.bool false) }, {}, {}, {}, {}, {}, { re := some (.bool true) }] ⟨[tS 0 vg, tI 3 z1, tB 31 true], [], []⟩ (.cons h9 (.cons (congrArg AV.bool h10) (.cons h11 (.cons (congrArg AV.bool h12) .nil)))) ?_
            refine Wc.cT rfl ?_
            apply Wc.seq
            refine Wc.r0 ⟨[tB 2 false], [], []⟩ ?_
            refine Wc.ret ?_
            obtain rfl := Option.some.inj h7
            obtain rfl := Option.some.inj h
            exact ⟨.inl rfl, by kernel_rfl, by kernel_rfl⟩
          · obtain ⟨h13, h7⟩ := oguard h7
            rcases oif h7 with ⟨h14, h7⟩ | ⟨h14, h7⟩
            · refine Wc.r2 [{}, {}, {}, {}, { re := some (.bool false) }, {}, {}, {}, {}, {}, { re := some (.bool false) }, {}, {}, {}, {}, {}, { re := some (.bool true) }] ⟨[tS 0 vg, tI 3 z1, tB 31 true], [], []⟩ (.cons h9 (.cons (congrArg AV.bool h10) (.cons h11 (.cons (congrArg AV.bool h12) (.cons h13 (.cons (congrArg AV.bool h14) .nil)))))) ?_
              refine Wc.cT rfl ?_
              apply Wc.seq
              refine Wc.r0 ⟨[tB 2 false], [], []⟩ ?_
              refine Wc.ret ?_
              obtain rfl := Option.some.inj h7
              obtain rfl := Option.some.inj h
              exact ⟨.inl rfl, by kernel_rfl, by kernel_rfl⟩
            · obtain ⟨h15, h7⟩ := oguard h7
              refine Wc.r2 [{}, {}, {}, {}, { re := some (.bool false) }, {}, {}, {}, {}, {}, { re := some (.bool false) }, {}, {}, {}, {}, {}, { re := some (.bool false) }] ⟨[tS 0 vg, tI 3 z1, tB 31 ((bt vg z1) == 34)], [], []⟩ (.cons h9 (.cons (congrArg AV.bool h10) (.cons h11 (.cons (congrArg AV.bool h12) (.cons h13 (.cons (congrArg AV.bool h14) (.cons h15 .nil))))))) ?_
              rcases oif h7 with ⟨h16, h7⟩ | ⟨h16, h7⟩
              · refine Wc.cT h16 ?_
                apply Wc.seq
                refine Wc.r0 ⟨[tB 2 false], [], []⟩ ?_
                refine Wc.ret ?_
                obtain rfl := Option.some.inj h7
                obtain rfl := Option.some.inj h
                exact ⟨.inl rfl, by kernel_rfl, by kernel_rfl⟩
              · refine Wc.cF h16 ?_
                refine Wc.fx [] ⟨[tS 0 vg, tI 3 z1], [], []⟩ ?_
                refine Wc.skip ?_
                refine Wc.r0 ⟨[tS 0 vg, tI 3 (wr.i64 (z1 + 1))], [], []⟩ ?_
                exact ⟨_, Nat.lt_succ_self _, _, rfl, h7⟩
      · refine Wc.cF h8 ?_
        refine Wc.fx [] ⟨[tS 0 vg], [], []⟩ ?_
        refine Wc.exit ?_
        obtain rfl := Option.some.inj h7
        exact ⟨rfl, rfl⟩
  · rintro st ⟨rfl, rfl⟩
    apply Wc.seq
    obtain ⟨ubj, h17, h⟩ := obind h
    refine Wc.r2 [{}, {}, { r := some (.v (.bool ubj) []) }] ⟨[tB 2 ubj], [], []⟩ (.cons (cspec_l01In h17) .nil) ?_
    obtain rfl := Option.some.inj h; exact Wc.ret dn

def pspec_l03One (k : Nat) (ux : GTerm) : Option Bool :=
  if (ux.gKind == 1) = true then
    (pspec_l01In k ux.gNum 0 99999).bind fun u8i =>
    if u8i = true then
      if (sEq ux.gName (bs [])) = true then
        some ((ux.gKids.length : Int) == 0)
      else
        some false
    else
      some false
  else
    if (ux.gKind == 2) = true then
      (pspec_l03Name k ux.gName).bind fun u8j =>
      if u8j = true then
        if (ux.gNum == 0) = true then
          some ((ux.gKids.length : Int) == 0)
        else
          some false
      else
        some false
    else
      if (ux.gKind == 3) = true then
        (pspec_l01In k ux.gNum (-999999999) 999999999).bind fun u8k =>
        if u8k = true then
          if (sEq ux.gName (bs [])) = true then
            some ((ux.gKids.length : Int) == 0)
          else
            some false
        else
          some false
      else
        if (ux.gKind == 4) = true then
          (pspec_l03Name k ux.gName).bind fun u8l =>
          if u8l = true then
            if (ux.gNum == 0) = true then
              (pspec_l01In k (ux.gKids.length : Int) 1 5).bind fun ubk =>
              some ubk
            else
              some false
          else
            some false
        else
          some false
theorem cspec_l03One {k : Nat} {ux : GTerm} {r : Bool} (h : pspec_l03One k ux = some r) : FnO Tryz.prog 88 [.v (.agg (GTerm.q ux)) []] (.v (.bool r) []) [] := by
  refine FnO.o2 Tryz.func88 (rfl : Tryz.f88.body = some _) ?_
  intro w0 X0 Fin pv0 pb gt
  unfold pspec_l03One at h
  apply Wc.seq
  refine Wc.r0 ⟨[tP 1 1], [bC 1 (GTerm.q ux)], []⟩ ?_
  apply Wc.seq
  apply Wc.seq
  refine Wc.r0 ⟨[tP 1 1, tI 4 ux.gKind], [bC 1 (GTerm.q ux)], []⟩ ?_
  refine Wc.block ?_
  apply Wc.seq
  refine Wc.r0 ⟨[tP 1 1, tI 4 ux.gKind, tB 5 (ux.gKind == 1)], [bC 1 (GTerm.q ux)], []⟩ ?_
  rcases oif h with ⟨h18, h⟩ | ⟨h18, h⟩
  · refine Wc.cT h18 ?_
    apply Wc.seq
    obtain ⟨u8i, h19, h⟩ := obind h
    rcases oif h with ⟨h20, h⟩ | ⟨h20, h⟩
    · rcases oif h with ⟨h21, h⟩ | ⟨h21, h⟩
      · refine Wc.r2 [{}, {}, { r := some (.v (.bool u8i) []) }, { re := some (.bool true) }, {}, {}, {}, {}, { re := some (.bool true) }, {}, {}, { v := some (aI (ux.gKids.length : Int)) }] ⟨[tB 2 ((ux.gKids.length : Int) == 0)], [], []⟩ (.cons (cspec_l01In h19) (.cons (congrArg AV.bool h20) (.cons (congrArg AV.bool h21) (.cons (len_obl GTerm.c ux.gKids) .nil)))) ?_
        obtain rfl := Option.some.inj h; exact Wc.ret dn
      · refine Wc.r2 [{}, {}, { r := some (.v (.bool u8i) []) }, { re := some (.bool true) }, {}, {}, {}, {}, { re := some (.bool false) }] ⟨[tB 2 false], [], []⟩ (.cons (cspec_l01In h19) (.cons (congrArg AV.bool h20) (.cons (congrArg AV.bool h21) .nil))) ?_
        obtain rfl := Option.some.inj h; exact Wc.ret dn
    · refine Wc.r2 [{}, {}, { r := some (.v (.bool u8i) []) }, { re := some (.bool false) }] ⟨[tB 2 false], [], []⟩ (.cons (cspec_l01In h19) (.cons (congrArg AV.bool h20) .nil)) ?_
      obtain rfl := Option.some.inj h; exact Wc.ret dn
  · refine Wc.cF h18 ?_
    apply Wc.seq
    refine Wc.r0 ⟨[tP 1 1, tI 4 ux.gKind, tB 21 (ux.gKind == 2)], [bC 1 (GTerm.q ux)], []⟩ ?_
    rcases oif h with ⟨h22, h⟩ | ⟨h22, h⟩
    · refine Wc.cT h22 ?_
      apply Wc.seq
      obtain ⟨u8j, h23, h⟩ := obind h
      rcases oif h with ⟨h24, h⟩ | ⟨h24, h⟩
      · rcases oif h with ⟨h25, h⟩ | ⟨h25, h⟩
        · refine Wc.r2 [{}, {}, { r := some (.v (.bool u8j) []) }, { re := some (.bool true) }, {}, {}, {}, {}, { re := some (.bool true) }, {}, {}, { v := some (aI (ux.gKids.length : Int)) }] ⟨[tB 2 ((ux.gKids.length : Int) == 0)], [], []⟩ (.cons (cspec_l03Name h23) (.cons (congrArg AV.bool h24) (.cons (congrArg AV.bool h25) (.cons (len_obl GTerm.c ux.gKids) .nil)))) ?_
          obtain rfl := Option.some.inj h; exact Wc.ret dn
        · refine Wc.r2 [{}, {}, { r := some (.v (.bool u8j) []) }, { re := some (.bool true) }, {}, {}, {}, {}, { re := some (.bool false) }] ⟨[tB 2 false], [], []⟩ (.cons (cspec_l03Name h23) (.cons (congrArg AV.bool h24) (.cons (congrArg AV.bool h25) .nil))) ?_
          obtain rfl := Option.some.inj h; exact Wc.ret dn
      · refine Wc.r2 [{}, {}, { r := some (.v (.bool u8j) []) }, { re := some (.bool false) }] ⟨[tB 2 false], [], []⟩ (.cons (cspec_l03Name h23) (.cons (congrArg AV.bool h24) .nil)) ?_
        obtain rfl := Option.some.inj h; exact Wc.ret dn
    · refine Wc.cF h22 ?_
      apply Wc.seq
      refine Wc.r0 ⟨[tP 1 1, tI 4 ux.gKind, tB 37 (ux.gKind == 3)], [bC 1 (GTerm.q ux)], []⟩ ?_
      rcases oif h with ⟨h26, h⟩ | ⟨h26, h⟩
      · refine Wc.cT h26 ?_
        apply Wc.seq
        obtain ⟨u8k, h27, h⟩ := obind h
        rcases oif h with ⟨h28, h⟩ | ⟨h28, h⟩
        · rcases oif h with ⟨h29, h⟩ | ⟨h29, h⟩
          · refine Wc.r2 [{}, {}, { r := some (.v (.bool u8k) []) }, { re := some (.bool true) }, {}, {}, {}, {}, { re := some (.bool true) }, {}, {}, { v := some (aI (ux.gKids.length : Int)) }] ⟨[tB 2 ((ux.gKids.length : Int) == 0)], [], []⟩ (.cons (cspec_l01In h27) (.cons (congrArg AV.bool h28) (.cons (congrArg AV.bool h29) (.cons (len_obl GTerm.c ux.gKids) .nil)))) ?_
            obtain rfl := Option.some.inj h; exact Wc.ret dn
          · refine Wc.r2 [{}, {}, { r := some (.v (.bool u8k) []) }, { re := some (.bool true) }, {}, {}, {}, {}, { re := some (.bool false) }] ⟨[tB 2 false], [], []⟩ (.cons (cspec_l01In h27) (.cons (congrArg AV.bool h28) (.cons (congrArg AV.bool h29) .nil))) ?_
            obtain rfl := Option.some.inj h; exact Wc.ret dn
        · refine Wc.r2 [{}, {}, { r := some (.v (.bool u8k) []) }, { re := some (.bool false) }] ⟨[tB 2 false], [], []⟩ (.cons (cspec_l01In h27) (.cons (congrArg AV.bool h28) .nil)) ?_
          obtain rfl := Option.some.inj h; exact Wc.ret dn
      · refine Wc.cF h26 ?_
        apply Wc.seq
        refine Wc.r0 ⟨[tP 1 1, tB 53 (ux.gKind == 4)], [bC 1 (GTerm.q ux)], []⟩ ?_
        rcases oif h with ⟨h30, h⟩ | ⟨h30, h⟩
        · refine Wc.cT h30 ?_
          apply Wc.seq
          obtain ⟨u8l, h31, h⟩ := obind h
          rcases oif h with ⟨h32, h⟩ | ⟨h32, h⟩
          · rcases oif h with ⟨h33, h⟩ | ⟨h33, h⟩
            · obtain ⟨ubk, h34, h⟩ := obind h
              refine Wc.r2 [{}, {}, { r := some (.v (.bool u8l) []) }, { re := some (.bool true) }, {}, {}, {}, {}, { re := some (.bool true) }, {}, {}, { v := some (aI (ux.gKids.length : Int)) }, { r := some (.v (.bool ubk) []) }] ⟨[tB 2 ubk], [], []⟩ (.cons (cspec_l03Name h31) (.cons (congrArg AV.bool h32) (.cons (congrArg AV.bool h33) (.cons (len_obl GTerm.c ux.gKids) (.cons (cspec_l01In h34) .nil))))) ?_
              obtain rfl := Option.some.inj h; exact Wc.ret dn
            · refine Wc.r2 [{}, {}, { r := some (.v (.bool u8l) []) }, { re := some (.bool true) }, {}, {}, {}, {}, { re := some (.bool false) }] ⟨[tB 2 false], [], []⟩ (.cons (cspec_l03Name h31) (.cons (congrArg AV.bool h32) (.cons (congrArg AV.bool h33) .nil))) ?_
              obtain rfl := Option.some.inj h; exact Wc.ret dn
          · refine Wc.r2 [{}, {}, { r := some (.v (.bool u8l) []) }, { re := some (.bool false) }] ⟨[tB 2 false], [], []⟩ (.cons (cspec_l03Name h31) (.cons (congrArg AV.bool h32) .nil)) ?_
            obtain rfl := Option.some.inj h; exact Wc.ret dn
        · refine Wc.cF h30 ?_
          refine Wc.fx [] ⟨[], [], []⟩ ?_
          refine Wc.skip ?_
          apply Wc.seq
          refine Wc.r0 ⟨[tB 2 false], [], []⟩ ?_
          obtain rfl := Option.some.inj h; exact Wc.ret dn

def pspec_l03Right_L1 (k : Nat) (rspec_l03Right : GTerm → Int → Option Bool) (vu : GTerm) (zr : Int) : Nat → Int → Option (Out Bool Unit)
  | 0, _ => none
  | m + 1, u34 =>
    if (decide (u34 < (vu.gKids.length : Int))) = true then
      (at' vu.gKids u34).bind fun u8m =>
      (rspec_l03Right u8m (wr.i64 (zr + 1))).bind fun ubl =>
      if (!ubl) = true then
        some (.ret false)
      else
        pspec_l03Right_L1 k rspec_l03Right vu zr m (wr.i64 (u34 + 1))
    else
      some (.done ())
mutual
def pspec_l03Right : Nat → GTerm → Int → Option Bool
  | 0, _, _ => none
  | k + 1, vu, zr =>
    if (decide (zr > 40)) = true then
      some false
    else
      (pspec_l03One k vu).bind fun ubm =>
      if (!ubm) = true then
        some false
      else
        (pspec_l03Right_L1 k (pspec_l03Right k) vu zr k 0).bind fun out1 => match out1 with
        | .ret r => some r
        | .done () =>
          some true
end
theorem all_pspec_l03Right : ∀ k : Nat, (∀ {vu : GTerm} {zr : Int} {r : Bool}, pspec_l03Right k vu zr = some r → FnO Tryz.prog 66 [.v (.agg (GTerm.q vu)) [], .v (aI zr) []] (.v (.bool r) []) []) := by
  intro k
  induction k with
  | zero =>
    · intro vu zr r h
      exact (onone (by rw [pspec_l03Right] at h; exact h)).elim
  | succ k ih =>
    have ih_pspec_l03Right := @ih
    · intro vu zr r h
      rw [pspec_l03Right] at h
      refine FnO.o2 Tryz.func66 (rfl : Tryz.f66.body = some _) ?_
      intro w0 X0 Fin pv0 pb gt
      apply Wc.seq
      refine Wc.r0 ⟨[tI 1 zr, tP 2 2], [bC 2 (GTerm.q vu)], []⟩ ?_
      apply Wc.seq
      apply Wc.seq
      rcases oif h with ⟨h35, h⟩ | ⟨h35, h⟩
      · refine Wc.r2 [{}, {}, { re := some (.bool true) }] ⟨[tI 1 zr, tP 2 2, tB 12 true], [bC 2 (GTerm.q vu)], []⟩ (.cons (congrArg AV.bool h35) .nil) ?_
        refine Wc.cT rfl ?_
        apply Wc.seq
        refine Wc.r0 ⟨[tB 4 false], [], []⟩ ?_
        obtain rfl := Option.some.inj h; exact Wc.ret dn
      · obtain ⟨ubm, h36, h⟩ := obind h
        refine Wc.r2 [{}, {}, { re := some (.bool false) }, {}, { r := some (.v (.bool ubm) []) }] ⟨[tI 1 zr, tP 2 2, tB 12 (!ubm)], [bC 2 (GTerm.q vu)], []⟩ (.cons (congrArg AV.bool h35) (.cons (cspec_l03One h36) .nil)) ?_
        rcases oif h with ⟨h37, h⟩ | ⟨h37, h⟩
        · refine Wc.cT h37 ?_
          apply Wc.seq
          refine Wc.r0 ⟨[tB 4 false], [], []⟩ ?_
          obtain rfl := Option.some.inj h; exact Wc.ret dn
        · refine Wc.cF h37 ?_
          refine Wc.fx [] ⟨[tI 1 zr, tP 2 2], [bC 2 (GTerm.q vu)], []⟩ ?_
          refine Wc.skip ?_
          apply Wc.seq
          apply Wc.seq
          refine Wc.r0 ⟨[tI 1 zr, tP 2 2, tI 5 0], [bC 2 (GTerm.q vu)], []⟩ ?_
          obtain ⟨out1, h38, h⟩ := obind h
          refine Wc.lastJ (fun st => out1 = .done () ∧ st = ⟨[], [], []⟩) ?_ ?_
          · refine Wc.block ?_
            refine Wc.loop (fun m st => ∃ (u34 : Int), st = ⟨[tI 1 zr, tP 2 2, tI 5 u34], [bC 2 (GTerm.q vu)], []⟩ ∧ pspec_l03Right_L1 k (pspec_l03Right k) vu zr m u34 = some out1) ?_ k ⟨_, rfl, h38⟩
            rintro m st ⟨u34, rfl, h38⟩
            cases m with
            | zero => exact (onone h38).elim
            | succ m =>
              apply Wc.seq
              apply Wc.seq
              refine Wc.r2 [{}, {}, {}, { v := some (aI (vu.gKids.length : Int)) }] ⟨[tI 1 zr, tP 2 2, tI 5 u34, tB 17 (decide (u34 < (vu.gKids.length : Int)))], [bC 2 (GTerm.q vu)], []⟩ (.cons (len_obl GTerm.c vu.gKids) .nil) ?_
              rcases oif h38 with ⟨h39, h38⟩ | ⟨h39, h38⟩
              · refine Wc.cT h39 ?_
                refine Wc.fx [] ⟨[tI 1 zr, tP 2 2, tI 5 u34], [bC 2 (GTerm.q vu)], []⟩ ?_
                refine Wc.skip ?_
                apply Wc.seq
                refine Wc.block ?_
                apply Wc.seq
                obtain ⟨u8m, h40, h38⟩ := obind h38
                obtain ⟨ubl, h41, h38⟩ := obind h38
                refine Wc.r2 [{}, {}, {}, { v := some (.vptr (GTerm.q u8m)) }, {}, {}, {}, { r := some (.v (.bool ubl) []) }] ⟨[tI 1 zr, tP 2 2, tI 5 u34, tB 28 (!ubl)], [bC 2 (GTerm.q vu)], []⟩ (.cons (at_obl (c := GTerm.c) (GTerm.c_eq u8m) GTerm.c_len h40) (.cons (len_ok 4 (GTerm.q u8m)) (.cons (ih_pspec_l03Right h41) .nil))) ?_
                rcases oif h38 with ⟨h42, h38⟩ | ⟨h42, h38⟩
                · refine Wc.cT h42 ?_
                  apply Wc.seq
                  refine Wc.r0 ⟨[tB 4 false], [], []⟩ ?_
                  refine Wc.ret ?_
                  obtain rfl := Option.some.inj h38
                  obtain rfl := Option.some.inj h
                  exact ⟨.inl rfl, by kernel_rfl, by kernel_rfl⟩
                · refine Wc.cF h42 ?_
                  refine Wc.fx [] ⟨[tI 1 zr, tP 2 2, tI 5 u34], [bC 2 (GTerm.q vu)], []⟩ ?_
                  refine Wc.skip ?_
                  refine Wc.r0 ⟨[tI 1 zr, tP 2 2, tI 5 (wr.i64 (u34 + 1))], [bC 2 (GTerm.q vu)], []⟩ ?_
                  exact ⟨_, Nat.lt_succ_self _, _, rfl, h38⟩
              · refine Wc.cF h39 ?_
                refine Wc.fx [] ⟨[], [], []⟩ ?_
                refine Wc.exit ?_
                obtain rfl := Option.some.inj h38
                exact ⟨rfl, rfl⟩
          · rintro st ⟨rfl, rfl⟩
            apply Wc.seq
            refine Wc.r0 ⟨[tB 4 true], [], []⟩ ?_
            obtain rfl := Option.some.inj h; exact Wc.ret dn
theorem cspec_l03Right {k : Nat} {vu : GTerm} {zr : Int} {r : Bool} (h : pspec_l03Right k vu zr = some r) : FnO Tryz.prog 66 [.v (.agg (GTerm.q vu)) [], .v (aI zr) []] (.v (.bool r) []) [] := (all_pspec_l03Right k) h

def pspec_TermOk (k : Nat) (u6o : GTerm) : Option Bool :=
  (pspec_l03Count k u6o 400).bind fun ubn =>
  if (decide (ubn ≥ 0)) = true then
    (pspec_l03Right k u6o 1).bind fun ubo =>
    some ubo
  else
    some false
theorem cspec_TermOk {k : Nat} {u6o : GTerm} {r : Bool} (h : pspec_TermOk k u6o = some r) : FnO Tryz.prog 29 [.v (.agg (GTerm.q u6o)) []] (.v (.bool r) []) [] := by
  refine FnO.o2 Tryz.func29 (rfl : Tryz.f29.body = some _) ?_
  intro w0 X0 Fin pv0 pb gt
  unfold pspec_TermOk at h
  apply Wc.seq
  refine Wc.r0 ⟨[tP 1 1], [bC 1 (GTerm.q u6o)], []⟩ ?_
  apply Wc.seq
  obtain ⟨ubn, h43, h⟩ := obind h
  rcases oif h with ⟨h44, h⟩ | ⟨h44, h⟩
  · obtain ⟨ubo, h45, h⟩ := obind h
    refine Wc.r2 [{}, { r := some (.v (aI ubn) []) }, {}, { re := some (.bool true) }, {}, { r := some (.v (.bool ubo) []) }] ⟨[tB 2 ubo], [], []⟩ (.cons (cspec_l03Count h43) (.cons (congrArg AV.bool h44) (.cons (cspec_l03Right h45) .nil))) ?_
    obtain rfl := Option.some.inj h; exact Wc.ret dn
  · refine Wc.r2 [{}, { r := some (.v (aI ubn) []) }, {}, { re := some (.bool false) }] ⟨[tB 2 false], [], []⟩ (.cons (cspec_l03Count h43) (.cons (congrArg AV.bool h44) .nil)) ?_
    obtain rfl := Option.some.inj h; exact Wc.ret dn

def pspec_l03Atom (k : Nat) (u6p : ByteArray) : Option GTerm :=
  some (GTerm.mk 2 u6p 0 [])
theorem cspec_l03Atom {k : Nat} {u6p : ByteArray} {r : GTerm} (h : pspec_l03Atom k u6p = some r) : FnO Tryz.prog 74 [.v (.str u6p) []] (.v (.agg (GTerm.q r)) [(3, .app 31)]) [] := by
  refine FnO.o2 Tryz.func74 (rfl : Tryz.f74.body = some _) ?_
  intro w0 X0 Fin pv0 pb gt
  unfold pspec_l03Atom at h
  apply Wc.seq
  refine Wc.r0 ⟨[tS 0 u6p, tP 2 2], [(2, .cells GTerm.z [(3, .app 31)])], []⟩ ?_
  apply Wc.seq
  refine Wc.r1 [{}, {}, { tk := [4] }] ⟨[tP 2 2], [(2, .cells [aI 2, .str u6p, aI 0, .sl (List.map GTerm.c [])] [(3, .app 31)])], []⟩ ?_
  obtain rfl := Option.some.inj h; exact Wc.ret dn

def pspec_l03Is (k : Nat) (u4g : GTerm) (u8n : ByteArray) (u6q : Int) : Option Bool :=
  if (u4g.gKind == 4) = true then
    if (sEq u4g.gName u8n) = true then
      some ((u4g.gKids.length : Int) == u6q)
    else
      some false
  else
    some false
theorem cspec_l03Is {k : Nat} {u4g : GTerm} {u8n : ByteArray} {u6q : Int} {r : Bool} (h : pspec_l03Is k u4g u8n u6q = some r) : FnO Tryz.prog 76 [.v (.agg (GTerm.q u4g)) [], .v (.str u8n) [], .v (aI u6q) []] (.v (.bool r) []) [] := by
  refine FnO.o2 Tryz.func76 (rfl : Tryz.f76.body = some _) ?_
  intro w0 X0 Fin pv0 pb gt
  unfold pspec_l03Is at h
  apply Wc.seq
  refine Wc.r0 ⟨[tS 1 u8n, tI 2 u6q, tP 3 3], [bC 3 (GTerm.q u4g)], []⟩ ?_
  apply Wc.seq
  rcases oif h with ⟨h46, h⟩ | ⟨h46, h⟩
  · rcases oif h with ⟨h47, h⟩ | ⟨h47, h⟩
    · refine Wc.r2 [{}, {}, {}, { re := some (.bool true) }, {}, {}, {}, {}, {}, { re := some (.bool true) }, {}, {}, { v := some (aI (u4g.gKids.length : Int)) }] ⟨[tB 6 ((u4g.gKids.length : Int) == u6q)], [], []⟩ (.cons (congrArg AV.bool h46) (.cons (congrArg AV.bool h47) (.cons (len_obl GTerm.c u4g.gKids) .nil))) ?_
      obtain rfl := Option.some.inj h; exact Wc.ret dn
    · refine Wc.r2 [{}, {}, {}, { re := some (.bool true) }, {}, {}, {}, {}, {}, { re := some (.bool false) }] ⟨[tB 6 false], [], []⟩ (.cons (congrArg AV.bool h46) (.cons (congrArg AV.bool h47) .nil)) ?_
      obtain rfl := Option.some.inj h; exact Wc.ret dn
  · refine Wc.r2 [{}, {}, {}, { re := some (.bool false) }] ⟨[tB 6 false], [], []⟩ (.cons (congrArg AV.bool h46) .nil) ?_
    obtain rfl := Option.some.inj h; exact Wc.ret dn

def pspec_Control_J1 (k : Nat) (u3 : ByteArray) (u8o : Bool) : Option Bool :=
  if u8o = true then
    some true
  else
    if (sEq u3 (bs [61, 47, 50])) = true then
      if (sEq u3 (bs [61, 47, 50])) = true then
        some true
      else
        some false
    else
      if (sEq u3 (bs [92, 61, 47, 50])) = true then
        if (sEq u3 (bs [92, 61, 47, 50])) = true then
          some true
        else
          some false
      else
        if (sEq u3 (bs [61, 61, 47, 50])) = true then
          if (sEq u3 (bs [61, 61, 47, 50])) = true then
            some true
          else
            some false
        else
          if (sEq u3 (bs [105, 115, 47, 50])) = true then
            if (sEq u3 (bs [105, 115, 47, 50])) = true then
              some true
            else
              some false
          else
            if (sEq u3 (bs [60, 47, 50])) = true then
              if (sEq u3 (bs [60, 47, 50])) = true then
                some true
              else
                some false
            else
              if (sEq u3 (bs [61, 58, 61, 47, 50])) = true then
                if (sEq u3 (bs [61, 58, 61, 47, 50])) = true then
                  some true
                else
                  some false
              else
                if (sEq u3 (bs [118, 97, 114, 47, 49])) = true then
                  if (sEq u3 (bs [118, 97, 114, 47, 49])) = true then
                    some true
                  else
                    some false
                else
                  if (sEq u3 (bs [97, 116, 111, 109, 47, 49])) = true then
                    if (sEq u3 (bs [97, 116, 111, 109, 47, 49])) = true then
                      some true
                    else
                      some false
                  else
                    if (sEq u3 (bs [119, 114, 105, 116, 101, 47, 49])) = true then
                      if (sEq u3 (bs [119, 114, 105, 116, 101, 47, 49])) = true then
                        some true
                      else
                        some false
                    else
                      if (sEq u3 (bs [97, 115, 115, 101, 114, 116, 122, 47, 49])) = true then
                        if (sEq u3 (bs [97, 115, 115, 101, 114, 116, 122, 47, 49])) = true then
                          some true
                        else
                          some false
                      else
                        if (sEq u3 (bs [114, 101, 116, 114, 97, 99, 116, 47, 49])) = true then
                          if (sEq u3 (bs [114, 101, 116, 114, 97, 99, 116, 47, 49])) = true then
                            some true
                          else
                            some false
                        else
                          if (sEq u3 (bs [58, 45, 47, 50])) = true then
                            if (sEq u3 (bs [58, 45, 47, 50])) = true then
                              some true
                            else
                              some false
                          else
                            if (sEq u3 (bs [58, 45, 47, 49])) = true then
                              if (sEq u3 (bs [58, 45, 47, 49])) = true then
                                some true
                              else
                                some false
                            else
                              if (sEq u3 (bs [45, 45, 62, 47, 50])) = true then
                                some true
                              else
                                some false
def pspec_Control (k : Nat) (u3 : ByteArray) : Option Bool :=
  if (sEq u3 (bs [116, 114, 117, 101, 47, 48])) = true then
    pspec_Control_J1 k u3 (sEq u3 (bs [116, 114, 117, 101, 47, 48]))
  else
    if (sEq u3 (bs [102, 97, 105, 108, 47, 48])) = true then
      pspec_Control_J1 k u3 (sEq u3 (bs [102, 97, 105, 108, 47, 48]))
    else
      if (sEq u3 (bs [33, 47, 48])) = true then
        pspec_Control_J1 k u3 (sEq u3 (bs [33, 47, 48]))
      else
        if (sEq u3 (bs [44, 47, 50])) = true then
          pspec_Control_J1 k u3 (sEq u3 (bs [44, 47, 50]))
        else
          if (sEq u3 (bs [59, 47, 50])) = true then
            pspec_Control_J1 k u3 (sEq u3 (bs [59, 47, 50]))
          else
            if (sEq u3 (bs [45, 62, 47, 50])) = true then
              pspec_Control_J1 k u3 (sEq u3 (bs [45, 62, 47, 50]))
            else
              if (sEq u3 (bs [92, 43, 47, 49])) = true then
                pspec_Control_J1 k u3 (sEq u3 (bs [92, 43, 47, 49]))
              else
                if (sEq u3 (bs [99, 97, 108, 108, 47, 49])) = true then
                  pspec_Control_J1 k u3 (sEq u3 (bs [99, 97, 108, 108, 47, 49]))
                else
                  if (sEq u3 (bs [99, 97, 108, 108, 47, 50])) = true then
                    pspec_Control_J1 k u3 (sEq u3 (bs [99, 97, 108, 108, 47, 50]))
                  else
                    if (sEq u3 (bs [99, 97, 108, 108, 47, 51])) = true then
                      pspec_Control_J1 k u3 (sEq u3 (bs [99, 97, 108, 108, 47, 51]))
                    else
                      if (sEq u3 (bs [99, 97, 116, 99, 104, 47, 51])) = true then
                        pspec_Control_J1 k u3 (sEq u3 (bs [99, 97, 116, 99, 104, 47, 51]))
                      else
                        pspec_Control_J1 k u3 (sEq u3 (bs [116, 104, 114, 111, 119, 47, 49]))
set_option maxHeartbeats 4000000 in
theorem cspec_Control {k : Nat} {u3 : ByteArray} {r : Bool} (h : pspec_Control k u3 = some r) : FnO Tryz.prog 23 [.v (.str u3) []] (.v (.bool r) []) [] := by
  refine FnO.o2 Tryz.func23 (rfl : Tryz.f23.body = some _) ?_
  intro w0 X0 Fin pv0 pb gt
  unfold pspec_Control at h
  apply Wc.seq
  refine Wc.r0 ⟨[tS 0 u3], [], []⟩ ?_
  apply Wc.seq
  apply Wc.seq
  refine Wc.r0 ⟨[tS 3 u3], [], []⟩ ?_
  refine Wc.block ?_
  refine Wc.seqJ (fun st => ∃ (u8o : Bool), st = ⟨[tS 3 u3, tB 4 u8o], [], []⟩ ∧ pspec_Control_J1 k u3 u8o = some r) ?_ ?_
  · apply Wc.seq
    refine Wc.r0 ⟨[tS 3 u3, tB 4 (sEq u3 (bs [116, 114, 117, 101, 47, 48]))], [], []⟩ ?_
    rcases oif h with ⟨h76, h⟩ | ⟨h76, h⟩
    · refine Wc.cT h76 ?_
      refine Wc.skip ?_
      exact ⟨_, rfl, h⟩
    · refine Wc.cF h76 ?_
      apply Wc.seq
      refine Wc.r0 ⟨[tS 3 u3, tB 4 (sEq u3 (bs [102, 97, 105, 108, 47, 48]))], [], []⟩ ?_
      rcases oif h with ⟨h77, h⟩ | ⟨h77, h⟩
      · refine Wc.cT h77 ?_
        refine Wc.skip ?_
        exact ⟨_, rfl, h⟩
      · refine Wc.cF h77 ?_
        apply Wc.seq
        refine Wc.r0 ⟨[tS 3 u3, tB 4 (sEq u3 (bs [33, 47, 48]))], [], []⟩ ?_
        rcases oif h with ⟨h78, h⟩ | ⟨h78, h⟩
        · refine Wc.cT h78 ?_
          refine Wc.skip ?_
          exact ⟨_, rfl, h⟩
        · refine Wc.cF h78 ?_
          apply Wc.seq
          refine Wc.r0 ⟨[tS 3 u3, tB 4 (sEq u3 (bs [44, 47, 50]))], [], []⟩ ?_
          rcases oif h with ⟨h79, h⟩ | ⟨h79, h⟩
          · refine Wc.cT h79 ?_
            refine Wc.skip ?_
            exact ⟨_, rfl, h⟩
          · refine Wc.cF h79 ?_
            apply Wc.seq
            refine Wc.r0 ⟨[tS 3 u3, tB 4 (sEq u3 (bs [59, 47, 50]))], [], []⟩ ?_
            rcases oif h with ⟨h80, h⟩ | ⟨h80, h⟩
            · refine Wc.cT h80 ?_
              refine Wc.skip ?_
              exact ⟨_, rfl, h⟩
            · refine Wc.cF h80 ?_
              apply Wc.seq
              refine Wc.r0 ⟨[tS 3 u3, tB 4 (sEq u3 (bs [45, 62, 47, 50]))], [], []⟩ ?_
              rcases oif h with ⟨h81, h⟩ | ⟨h81, h⟩
              · refine Wc.cT h81 ?_
                refine Wc.skip ?_
                exact ⟨_, rfl, h⟩
              · refine Wc.cF h81 ?_
                apply Wc.seq
                refine Wc.r0 ⟨[tS 3 u3, tB 4 (sEq u3 (bs [92, 43, 47, 49]))], [], []⟩ ?_
                rcases oif h with ⟨h82, h⟩ | ⟨h82, h⟩
                · refine Wc.cT h82 ?_
                  refine Wc.skip ?_
                  exact ⟨_, rfl, h⟩
                · refine Wc.cF h82 ?_
                  apply Wc.seq
                  refine Wc.r0 ⟨[tS 3 u3, tB 4 (sEq u3 (bs [99, 97, 108, 108, 47, 49]))], [], []⟩ ?_
                  rcases oif h with ⟨h83, h⟩ | ⟨h83, h⟩
                  · refine Wc.cT h83 ?_
                    refine Wc.skip ?_
                    exact ⟨_, rfl, h⟩
                  · refine Wc.cF h83 ?_
                    apply Wc.seq
                    refine Wc.r0 ⟨[tS 3 u3, tB 4 (sEq u3 (bs [99, 97, 108, 108, 47, 50]))], [], []⟩ ?_
                    rcases oif h with ⟨h84, h⟩ | ⟨h84, h⟩
                    · refine Wc.cT h84 ?_
                      refine Wc.skip ?_
                      exact ⟨_, rfl, h⟩
                    · refine Wc.cF h84 ?_
                      apply Wc.seq
                      refine Wc.r0 ⟨[tS 3 u3, tB 4 (sEq u3 (bs [99, 97, 108, 108, 47, 51]))], [], []⟩ ?_
                      rcases oif h with ⟨h85, h⟩ | ⟨h85, h⟩
                      · refine Wc.cT h85 ?_
                        refine Wc.skip ?_
                        exact ⟨_, rfl, h⟩
                      · refine Wc.cF h85 ?_
                        apply Wc.seq
                        refine Wc.r0 ⟨[tS 3 u3, tB 4 (sEq u3 (bs [99, 97, 116, 99, 104, 47, 51]))], [], []⟩ ?_
                        rcases oif h with ⟨h86, h⟩ | ⟨h86, h⟩
                        · refine Wc.cT h86 ?_
                          refine Wc.skip ?_
                          exact ⟨_, rfl, h⟩
                        · refine Wc.cF h86 ?_
                          refine Wc.r0 ⟨[tS 3 u3, tB 4 (sEq u3 (bs [116, 104, 114, 111, 119, 47, 49]))], [], []⟩ ?_
                          exact ⟨_, rfl, h⟩
  · rintro st ⟨u8o, rfl, h⟩
    rcases oif h with ⟨h48, h⟩ | ⟨h48, h⟩
    · refine Wc.cT h48 ?_
      apply Wc.seq
      refine Wc.r0 ⟨[tB 2 true], [], []⟩ ?_
      obtain rfl := Option.some.inj h; exact Wc.ret dn
    · refine Wc.cF h48 ?_
      apply Wc.seq
      apply Wc.seq
      refine Wc.r0 ⟨[tS 3 u3, tB 17 (sEq u3 (bs [61, 47, 50]))], [], []⟩ ?_
      rcases oif h with ⟨h49, h⟩ | ⟨h49, h⟩
      · refine Wc.cT h49 ?_
        refine Wc.fx [] ⟨[tB 17 (sEq u3 (bs [61, 47, 50]))], [], []⟩ ?_
        refine Wc.skip ?_
        rcases oif h with ⟨h50, h⟩ | ⟨h50, h⟩
        · refine Wc.cT h50 ?_
          apply Wc.seq
          refine Wc.r0 ⟨[tB 2 true], [], []⟩ ?_
          obtain rfl := Option.some.inj h; exact Wc.ret dn
        · refine Wc.cF h50 ?_
          refine Wc.fx [] ⟨[], [], []⟩ ?_
          refine Wc.skip ?_
          apply Wc.seq
          refine Wc.r0 ⟨[tB 2 false], [], []⟩ ?_
          obtain rfl := Option.some.inj h; exact Wc.ret dn
      · refine Wc.cF h49 ?_
        apply Wc.seq
        refine Wc.r0 ⟨[tS 3 u3, tB 17 (sEq u3 (bs [92, 61, 47, 50]))], [], []⟩ ?_
        rcases oif h with ⟨h51, h⟩ | ⟨h51, h⟩
        · refine Wc.cT h51 ?_
          refine Wc.fx [] ⟨[tB 17 (sEq u3 (bs [92, 61, 47, 50]))], [], []⟩ ?_
          refine Wc.skip ?_
          rcases oif h with ⟨h52, h⟩ | ⟨h52, h⟩
          · refine Wc.cT h52 ?_
            apply Wc.seq
            refine Wc.r0 ⟨[tB 2 true], [], []⟩ ?_
            obtain rfl := Option.some.inj h; exact Wc.ret dn
          · refine Wc.cF h52 ?_
            refine Wc.fx [] ⟨[], [], []⟩ ?_
            refine Wc.skip ?_
            apply Wc.seq
            refine Wc.r0 ⟨[tB 2 false], [], []⟩ ?_
            obtain rfl := Option.some.inj h; exact Wc.ret dn
        · refine Wc.cF h51 ?_
          apply Wc.seq
          refine Wc.r0 ⟨[tS 3 u3, tB 17 (sEq u3 (bs [61, 61, 47, 50]))], [], []⟩ ?_
          rcases oif h with ⟨h53, h⟩ | ⟨h53, h⟩
          · refine Wc.cT h53 ?_
            refine Wc.fx [] ⟨[tB 17 (sEq u3 (bs [61, 61, 47, 50]))], [], []⟩ ?_
            refine Wc.skip ?_
            rcases oif h with ⟨h54, h⟩ | ⟨h54, h⟩
            · refine Wc.cT h54 ?_
              apply Wc.seq
              refine Wc.r0 ⟨[tB 2 true], [], []⟩ ?_
              obtain rfl := Option.some.inj h; exact Wc.ret dn
            · refine Wc.cF h54 ?_
              refine Wc.fx [] ⟨[], [], []⟩ ?_
              refine Wc.skip ?_
              apply Wc.seq
              refine Wc.r0 ⟨[tB 2 false], [], []⟩ ?_
              obtain rfl := Option.some.inj h; exact Wc.ret dn
          · refine Wc.cF h53 ?_
            apply Wc.seq
            refine Wc.r0 ⟨[tS 3 u3, tB 17 (sEq u3 (bs [105, 115, 47, 50]))], [], []⟩ ?_
            rcases oif h with ⟨h55, h⟩ | ⟨h55, h⟩
            · refine Wc.cT h55 ?_
              refine Wc.fx [] ⟨[tB 17 (sEq u3 (bs [105, 115, 47, 50]))], [], []⟩ ?_
              refine Wc.skip ?_
              rcases oif h with ⟨h56, h⟩ | ⟨h56, h⟩
              · refine Wc.cT h56 ?_
                apply Wc.seq
                refine Wc.r0 ⟨[tB 2 true], [], []⟩ ?_
                obtain rfl := Option.some.inj h; exact Wc.ret dn
              · refine Wc.cF h56 ?_
                refine Wc.fx [] ⟨[], [], []⟩ ?_
                refine Wc.skip ?_
                apply Wc.seq
                refine Wc.r0 ⟨[tB 2 false], [], []⟩ ?_
                obtain rfl := Option.some.inj h; exact Wc.ret dn
            · refine Wc.cF h55 ?_
              apply Wc.seq
              refine Wc.r0 ⟨[tS 3 u3, tB 17 (sEq u3 (bs [60, 47, 50]))], [], []⟩ ?_
              rcases oif h with ⟨h57, h⟩ | ⟨h57, h⟩
              · refine Wc.cT h57 ?_
                refine Wc.fx [] ⟨[tB 17 (sEq u3 (bs [60, 47, 50]))], [], []⟩ ?_
                refine Wc.skip ?_
                rcases oif h with ⟨h58, h⟩ | ⟨h58, h⟩
                · refine Wc.cT h58 ?_
                  apply Wc.seq
                  refine Wc.r0 ⟨[tB 2 true], [], []⟩ ?_
                  obtain rfl := Option.some.inj h; exact Wc.ret dn
                · refine Wc.cF h58 ?_
                  refine Wc.fx [] ⟨[], [], []⟩ ?_
                  refine Wc.skip ?_
                  apply Wc.seq
                  refine Wc.r0 ⟨[tB 2 false], [], []⟩ ?_
                  obtain rfl := Option.some.inj h; exact Wc.ret dn
              · refine Wc.cF h57 ?_
                apply Wc.seq
                refine Wc.r0 ⟨[tS 3 u3, tB 17 (sEq u3 (bs [61, 58, 61, 47, 50]))], [], []⟩ ?_
                rcases oif h with ⟨h59, h⟩ | ⟨h59, h⟩
                · refine Wc.cT h59 ?_
                  refine Wc.fx [] ⟨[tB 17 (sEq u3 (bs [61, 58, 61, 47, 50]))], [], []⟩ ?_
                  refine Wc.skip ?_
                  rcases oif h with ⟨h60, h⟩ | ⟨h60, h⟩
                  · refine Wc.cT h60 ?_
                    apply Wc.seq
                    refine Wc.r0 ⟨[tB 2 true], [], []⟩ ?_
                    obtain rfl := Option.some.inj h; exact Wc.ret dn
                  · refine Wc.cF h60 ?_
                    refine Wc.fx [] ⟨[], [], []⟩ ?_
                    refine Wc.skip ?_
                    apply Wc.seq
                    refine Wc.r0 ⟨[tB 2 false], [], []⟩ ?_
                    obtain rfl := Option.some.inj h; exact Wc.ret dn
                · refine Wc.cF h59 ?_
                  apply Wc.seq
                  refine Wc.r0 ⟨[tS 3 u3, tB 17 (sEq u3 (bs [118, 97, 114, 47, 49]))], [], []⟩ ?_
                  rcases oif h with ⟨h61, h⟩ | ⟨h61, h⟩
                  · refine Wc.cT h61 ?_
                    refine Wc.fx [] ⟨[tB 17 (sEq u3 (bs [118, 97, 114, 47, 49]))], [], []⟩ ?_
                    refine Wc.skip ?_
                    rcases oif h with ⟨h62, h⟩ | ⟨h62, h⟩
                    · refine Wc.cT h62 ?_
                      apply Wc.seq
                      refine Wc.r0 ⟨[tB 2 true], [], []⟩ ?_
                      obtain rfl := Option.some.inj h; exact Wc.ret dn
                    · refine Wc.cF h62 ?_
                      refine Wc.fx [] ⟨[], [], []⟩ ?_
                      refine Wc.skip ?_
                      apply Wc.seq
                      refine Wc.r0 ⟨[tB 2 false], [], []⟩ ?_
                      obtain rfl := Option.some.inj h; exact Wc.ret dn
                  · refine Wc.cF h61 ?_
                    apply Wc.seq
                    refine Wc.r0 ⟨[tS 3 u3, tB 17 (sEq u3 (bs [97, 116, 111, 109, 47, 49]))], [], []⟩ ?_
                    rcases oif h with ⟨h63, h⟩ | ⟨h63, h⟩
                    · refine Wc.cT h63 ?_
                      refine Wc.fx [] ⟨[tB 17 (sEq u3 (bs [97, 116, 111, 109, 47, 49]))], [], []⟩ ?_
                      refine Wc.skip ?_
                      rcases oif h with ⟨h64, h⟩ | ⟨h64, h⟩
                      · refine Wc.cT h64 ?_
                        apply Wc.seq
                        refine Wc.r0 ⟨[tB 2 true], [], []⟩ ?_
                        obtain rfl := Option.some.inj h; exact Wc.ret dn
                      · refine Wc.cF h64 ?_
                        refine Wc.fx [] ⟨[], [], []⟩ ?_
                        refine Wc.skip ?_
                        apply Wc.seq
                        refine Wc.r0 ⟨[tB 2 false], [], []⟩ ?_
                        obtain rfl := Option.some.inj h; exact Wc.ret dn
                    · refine Wc.cF h63 ?_
                      apply Wc.seq
                      refine Wc.r0 ⟨[tS 3 u3, tB 17 (sEq u3 (bs [119, 114, 105, 116, 101, 47, 49]))], [], []⟩ ?_
                      rcases oif h with ⟨h65, h⟩ | ⟨h65, h⟩
                      · refine Wc.cT h65 ?_
                        refine Wc.fx [] ⟨[tB 17 (sEq u3 (bs [119, 114, 105, 116, 101, 47, 49]))], [], []⟩ ?_
                        refine Wc.skip ?_
                        rcases oif h with ⟨h66, h⟩ | ⟨h66, h⟩
                        · refine Wc.cT h66 ?_
                          apply Wc.seq
                          refine Wc.r0 ⟨[tB 2 true], [], []⟩ ?_
                          obtain rfl := Option.some.inj h; exact Wc.ret dn
                        · refine Wc.cF h66 ?_
                          refine Wc.fx [] ⟨[], [], []⟩ ?_
                          refine Wc.skip ?_
                          apply Wc.seq
                          refine Wc.r0 ⟨[tB 2 false], [], []⟩ ?_
                          obtain rfl := Option.some.inj h; exact Wc.ret dn
                      · refine Wc.cF h65 ?_
                        apply Wc.seq
                        refine Wc.r0 ⟨[tS 3 u3, tB 17 (sEq u3 (bs [97, 115, 115, 101, 114, 116, 122, 47, 49]))], [], []⟩ ?_
                        rcases oif h with ⟨h67, h⟩ | ⟨h67, h⟩
                        · refine Wc.cT h67 ?_
                          refine Wc.fx [] ⟨[tB 17 (sEq u3 (bs [97, 115, 115, 101, 114, 116, 122, 47, 49]))], [], []⟩ ?_
                          refine Wc.skip ?_
                          rcases oif h with ⟨h68, h⟩ | ⟨h68, h⟩
                          · refine Wc.cT h68 ?_
                            apply Wc.seq
                            refine Wc.r0 ⟨[tB 2 true], [], []⟩ ?_
                            obtain rfl := Option.some.inj h; exact Wc.ret dn
                          · refine Wc.cF h68 ?_
                            refine Wc.fx [] ⟨[], [], []⟩ ?_
                            refine Wc.skip ?_
                            apply Wc.seq
                            refine Wc.r0 ⟨[tB 2 false], [], []⟩ ?_
                            obtain rfl := Option.some.inj h; exact Wc.ret dn
                        · refine Wc.cF h67 ?_
                          apply Wc.seq
                          refine Wc.r0 ⟨[tS 3 u3, tB 17 (sEq u3 (bs [114, 101, 116, 114, 97, 99, 116, 47, 49]))], [], []⟩ ?_
                          rcases oif h with ⟨h69, h⟩ | ⟨h69, h⟩
                          · refine Wc.cT h69 ?_
                            refine Wc.fx [] ⟨[tB 17 (sEq u3 (bs [114, 101, 116, 114, 97, 99, 116, 47, 49]))], [], []⟩ ?_
                            refine Wc.skip ?_
                            rcases oif h with ⟨h70, h⟩ | ⟨h70, h⟩
                            · refine Wc.cT h70 ?_
                              apply Wc.seq
                              refine Wc.r0 ⟨[tB 2 true], [], []⟩ ?_
                              obtain rfl := Option.some.inj h; exact Wc.ret dn
                            · refine Wc.cF h70 ?_
                              refine Wc.fx [] ⟨[], [], []⟩ ?_
                              refine Wc.skip ?_
                              apply Wc.seq
                              refine Wc.r0 ⟨[tB 2 false], [], []⟩ ?_
                              obtain rfl := Option.some.inj h; exact Wc.ret dn
                          · refine Wc.cF h69 ?_
                            apply Wc.seq
                            refine Wc.r0 ⟨[tS 3 u3, tB 17 (sEq u3 (bs [58, 45, 47, 50]))], [], []⟩ ?_
                            rcases oif h with ⟨h71, h⟩ | ⟨h71, h⟩
                            · refine Wc.cT h71 ?_
                              refine Wc.fx [] ⟨[tB 17 (sEq u3 (bs [58, 45, 47, 50]))], [], []⟩ ?_
                              refine Wc.skip ?_
                              rcases oif h with ⟨h72, h⟩ | ⟨h72, h⟩
                              · refine Wc.cT h72 ?_
                                apply Wc.seq
                                refine Wc.r0 ⟨[tB 2 true], [], []⟩ ?_
                                obtain rfl := Option.some.inj h; exact Wc.ret dn
                              · refine Wc.cF h72 ?_
                                refine Wc.fx [] ⟨[], [], []⟩ ?_
                                refine Wc.skip ?_
                                apply Wc.seq
                                refine Wc.r0 ⟨[tB 2 false], [], []⟩ ?_
                                obtain rfl := Option.some.inj h; exact Wc.ret dn
                            · refine Wc.cF h71 ?_
                              apply Wc.seq
                              refine Wc.r0 ⟨[tS 3 u3, tB 17 (sEq u3 (bs [58, 45, 47, 49]))], [], []⟩ ?_
                              rcases oif h with ⟨h73, h⟩ | ⟨h73, h⟩
                              · refine Wc.cT h73 ?_
                                refine Wc.fx [] ⟨[tB 17 (sEq u3 (bs [58, 45, 47, 49]))], [], []⟩ ?_
                                refine Wc.skip ?_
                                rcases oif h with ⟨h74, h⟩ | ⟨h74, h⟩
                                · refine Wc.cT h74 ?_
                                  apply Wc.seq
                                  refine Wc.r0 ⟨[tB 2 true], [], []⟩ ?_
                                  obtain rfl := Option.some.inj h; exact Wc.ret dn
                                · refine Wc.cF h74 ?_
                                  refine Wc.fx [] ⟨[], [], []⟩ ?_
                                  refine Wc.skip ?_
                                  apply Wc.seq
                                  refine Wc.r0 ⟨[tB 2 false], [], []⟩ ?_
                                  obtain rfl := Option.some.inj h; exact Wc.ret dn
                              · refine Wc.cF h73 ?_
                                refine Wc.r0 ⟨[tB 17 (sEq u3 (bs [45, 45, 62, 47, 50]))], [], []⟩ ?_
                                rcases oif h with ⟨h75, h⟩ | ⟨h75, h⟩
                                · refine Wc.cT h75 ?_
                                  apply Wc.seq
                                  refine Wc.r0 ⟨[tB 2 true], [], []⟩ ?_
                                  obtain rfl := Option.some.inj h; exact Wc.ret dn
                                · refine Wc.cF h75 ?_
                                  refine Wc.fx [] ⟨[], [], []⟩ ?_
                                  refine Wc.skip ?_
                                  apply Wc.seq
                                  refine Wc.r0 ⟨[tB 2 false], [], []⟩ ?_
                                  obtain rfl := Option.some.inj h; exact Wc.ret dn

def pspec_l01Figure (k : Nat) (u3m : Int) : Option Int :=
  if (decide (u3m < 10)) = true then
    some (wr.u8 (wr.i64 (48 + u3m)))
  else
    some (wr.u8 (wr.i64 ((wr.i64 (97 + u3m)) - 10)))
theorem cspec_l01Figure {k : Nat} {u3m : Int} {r : Int} (h : pspec_l01Figure k u3m = some r) : FnO Tryz.prog 85 [.v (aI u3m) []] (.v (.int .u8 r) []) [] := by
  refine FnO.o2 Tryz.func85 (rfl : Tryz.f85.body = some _) ?_
  intro w0 X0 Fin pv0 pb gt
  unfold pspec_l01Figure at h
  apply Wc.seq
  refine Wc.r0 ⟨[tI 0 u3m], [], []⟩ ?_
  apply Wc.seq
  apply Wc.seq
  refine Wc.r0 ⟨[tI 0 u3m, tB 4 (decide (u3m < 10))], [], []⟩ ?_
  rcases oif h with ⟨h87, h⟩ | ⟨h87, h⟩
  · refine Wc.cT h87 ?_
    apply Wc.seq
    refine Wc.r0 ⟨[tV 2 (.int .u8 (wr.u8 (wr.i64 (48 + u3m))))], [], []⟩ ?_
    obtain rfl := Option.some.inj h; exact Wc.ret dn
  · refine Wc.cF h87 ?_
    refine Wc.fx [] ⟨[tI 0 u3m], [], []⟩ ?_
    refine Wc.skip ?_
    apply Wc.seq
    refine Wc.r0 ⟨[tV 2 (.int .u8 (wr.u8 (wr.i64 ((wr.i64 (97 + u3m)) - 10))))], [], []⟩ ?_
    obtain rfl := Option.some.inj h; exact Wc.ret dn

def pspec_Decimal_J2 (k : Nat) (bk_ : Int → ByteArray → Option (Out ByteArray ByteArray)) (u0o : ByteArray) (z2 : Int) (u8p : Int) : Option (Out ByteArray ByteArray) :=
  (pspec_l01Figure k u8p).bind fun u4h =>
  if sumOk (strOfNums [u4h]) u0o then
    if (10 : Int) ≠ 0 then
      bk_ (wr.i64 (Int.tdiv z2 10)) ((strOfNums [u4h]) ++ u0o)
    else none
  else none
def pspec_Decimal_L1 (k : Nat) : Nat → Int → ByteArray → Option (Out ByteArray ByteArray)
  | 0, _, _ => none
  | m + 1, z2, u0o =>
    if (z2 != 0) = true then
      if (10 : Int) ≠ 0 then
        if (decide ((Int.tmod z2 10) < 0)) = true then
          pspec_Decimal_J2 k (pspec_Decimal_L1 k m) u0o z2 (wr.i64 (0 - (Int.tmod z2 10)))
        else
          pspec_Decimal_J2 k (pspec_Decimal_L1 k m) u0o z2 (Int.tmod z2 10)
      else none
    else
      some (.done u0o)
def pspec_Decimal (k : Nat) (z8 : Int) : Option ByteArray :=
  if (z8 == 0) = true then
    some (bs [48])
  else
    (pspec_Decimal_L1 k k z8 (bs [])).bind fun out1 => match out1 with
    | .ret r => some r
    | .done u3y =>
      if (decide (z8 < 0)) = true then
        if sumOk (bs [45]) u3y then
          some ((bs [45]) ++ u3y)
        else none
      else
        some u3y
theorem cspec_Decimal {k : Nat} {z8 : Int} {r : ByteArray} (h : pspec_Decimal k z8 = some r) : FnO Tryz.prog 62 [.v (aI z8) []] (.v (.str r) []) [] := by
  refine FnO.o2 Tryz.func62 (rfl : Tryz.f62.body = some _) ?_
  intro w0 X0 Fin pv0 pb gt
  unfold pspec_Decimal at h
  apply Wc.seq
  refine Wc.r0 ⟨[tI 0 z8], [], []⟩ ?_
  apply Wc.seq
  apply Wc.seq
  refine Wc.r0 ⟨[tI 0 z8, tB 7 (z8 == 0)], [], []⟩ ?_
  rcases oif h with ⟨h88, h⟩ | ⟨h88, h⟩
  · refine Wc.cT h88 ?_
    apply Wc.seq
    refine Wc.r0 ⟨[tS 2 (bs [48])], [], []⟩ ?_
    obtain rfl := Option.some.inj h; exact Wc.ret dn
  · refine Wc.cF h88 ?_
    refine Wc.fx [] ⟨[tI 0 z8], [], []⟩ ?_
    refine Wc.skip ?_
    apply Wc.seq
    refine Wc.r0 ⟨[tI 0 z8, tB 3 (decide (z8 < 0))], [], []⟩ ?_
    apply Wc.seq
    refine Wc.r0 ⟨[tI 0 z8, tB 3 (decide (z8 < 0)), tS 4 (bs [])], [], []⟩ ?_
    obtain ⟨out1, h89, h⟩ := obind h
    refine Wc.seqJ (fun st => ∃ (u3y : ByteArray), out1 = .done u3y ∧ st = ⟨[tB 3 (decide (z8 < 0)), tS 4 u3y], [], []⟩) ?_ ?_
    · refine Wc.block ?_
      refine Wc.loop (fun m st => ∃ (z2 : Int) (u0o : ByteArray), st = ⟨[tI 0 z2, tB 3 (decide (z8 < 0)), tS 4 u0o], [], []⟩ ∧ pspec_Decimal_L1 k m z2 u0o = some out1) ?_ k ⟨_, _, rfl, h89⟩
      rintro m st ⟨z2, u0o, rfl, h89⟩
      cases m with
      | zero => exact (onone h89).elim
      | succ m =>
        apply Wc.seq
        apply Wc.seq
        refine Wc.r0 ⟨[tI 0 z2, tB 3 (decide (z8 < 0)), tS 4 u0o, tB 11 (z2 != 0)], [], []⟩ ?_
        rcases oif h89 with ⟨h90, h89⟩ | ⟨h90, h89⟩
        · refine Wc.cT h90 ?_
          refine Wc.fx [] ⟨[tI 0 z2, tB 3 (decide (z8 < 0)), tS 4 u0o], [], []⟩ ?_
          refine Wc.skip ?_
          refine Wc.block ?_
          apply Wc.seq
          obtain ⟨h91, h89⟩ := oguard h89
          refine Wc.r2 [] ⟨[tI 0 z2, tB 3 (decide (z8 < 0)), tS 4 u0o, tI 5 (Int.tmod z2 10)], [], []⟩ (.cons h91 .nil) ?_
          refine Wc.seqJ (fun st => ∃ (u8p : Int), st = ⟨[tI 0 z2, tB 3 (decide (z8 < 0)), tS 4 u0o, tI 5 u8p], [], []⟩ ∧ pspec_Decimal_J2 k (pspec_Decimal_L1 k m) u0o z2 u8p = some out1) ?_ ?_
          · apply Wc.seq
            refine Wc.r0 ⟨[tI 0 z2, tB 3 (decide (z8 < 0)), tS 4 u0o, tI 5 (Int.tmod z2 10), tB 15 (decide ((Int.tmod z2 10) < 0))], [], []⟩ ?_
            rcases oif h89 with ⟨h95, h89⟩ | ⟨h95, h89⟩
            · refine Wc.cT h95 ?_
              refine Wc.r0 ⟨[tI 0 z2, tB 3 (decide (z8 < 0)), tS 4 u0o, tI 5 (wr.i64 (0 - (Int.tmod z2 10)))], [], []⟩ ?_
              exact ⟨_, rfl, h89⟩
            · refine Wc.cF h95 ?_
              refine Wc.fx [] ⟨[tI 0 z2, tB 3 (decide (z8 < 0)), tS 4 u0o, tI 5 (Int.tmod z2 10)], [], []⟩ ?_
              refine Wc.skip ?_
              exact ⟨_, rfl, h89⟩
          · rintro st ⟨u8p, rfl, h89⟩
            apply Wc.seq
            obtain ⟨u4h, h92, h89⟩ := obind h89
            obtain ⟨h93, h89⟩ := oguard h89
            refine Wc.r2 [{}, { r := some (.v (.int .u8 u4h) []) }, { c := some (List.map cI.u8 [u4h]) }, { v := some (.str (strOfNums [u4h])) }] ⟨[tI 0 z2, tB 3 (decide (z8 < 0)), tS 4 ((strOfNums [u4h]) ++ u0o)], [], []⟩ (.cons (cspec_l01Figure h92) (.cons (cl_cons (c := cI.u8) (x := u4h) rfl (cl_nil cI.u8)) (.cons (bytes_obl [u4h]) (.cons h93 .nil)))) ?_
            obtain ⟨h94, h89⟩ := oguard h89
            refine Wc.r2 [] ⟨[tI 0 (wr.i64 (Int.tdiv z2 10)), tB 3 (decide (z8 < 0)), tS 4 ((strOfNums [u4h]) ++ u0o)], [], []⟩ (.cons h94 .nil) ?_
            exact ⟨_, Nat.lt_succ_self _, _, _, rfl, h89⟩
        · refine Wc.cF h90 ?_
          refine Wc.fx [] ⟨[tB 3 (decide (z8 < 0)), tS 4 u0o], [], []⟩ ?_
          refine Wc.exit ?_
          obtain rfl := Option.some.inj h89
          exact ⟨_, rfl, rfl⟩
    · rintro st ⟨u3y, rfl, rfl⟩
      apply Wc.seq
      apply Wc.seq
      refine Wc.r0 ⟨[tS 4 u3y, tB 26 (decide (z8 < 0))], [], []⟩ ?_
      rcases oif h with ⟨h96, h⟩ | ⟨h96, h⟩
      · refine Wc.cT h96 ?_
        apply Wc.seq
        obtain ⟨h97, h⟩ := oguard h
        refine Wc.r2 [] ⟨[tS 2 ((bs [45]) ++ u3y)], [], []⟩ (.cons h97 .nil) ?_
        obtain rfl := Option.some.inj h; exact Wc.ret dn
      · refine Wc.cF h96 ?_
        refine Wc.fx [] ⟨[tS 4 u3y], [], []⟩ ?_
        refine Wc.skip ?_
        apply Wc.seq
        refine Wc.r0 ⟨[tS 2 u3y], [], []⟩ ?_
        obtain rfl := Option.some.inj h; exact Wc.ret dn

def pspec_PredOf_J1 (k : Nat) (u03 : GTerm) : Option ByteArray :=
  if sumOk u03.gName (bs [47]) then
    (pspec_Decimal k (u03.gKids.length : Int)).bind fun u8q =>
    if sumOk (u03.gName ++ (bs [47])) u8q then
      some ((u03.gName ++ (bs [47])) ++ u8q)
    else none
  else none
def pspec_PredOf (k : Nat) (u03 : GTerm) : Option ByteArray :=
  if (u03.gKind != 2) = true then
    if (u03.gKind != 4) = true then
      some (bs [])
    else
      pspec_PredOf_J1 k u03
  else
    pspec_PredOf_J1 k u03
theorem cspec_PredOf {k : Nat} {u03 : GTerm} {r : ByteArray} (h : pspec_PredOf k u03 = some r) : FnO Tryz.prog 25 [.v (.agg (GTerm.q u03)) []] (.v (.str r) []) [] := by
  refine FnO.o2 Tryz.func25 (rfl : Tryz.f25.body = some _) ?_
  intro w0 X0 Fin pv0 pb gt
  unfold pspec_PredOf at h
  apply Wc.seq
  refine Wc.r0 ⟨[tP 1 1], [bC 1 (GTerm.q u03)], []⟩ ?_
  refine Wc.seqJ (fun st => st = ⟨[tP 1 1], [bC 1 (GTerm.q u03)], []⟩ ∧ pspec_PredOf_J1 k u03 = some r) ?_ ?_
  · apply Wc.seq
    rcases oif h with ⟨h101, h⟩ | ⟨h101, h⟩
    · refine Wc.r2 [{}, {}, {}, { re := some (.bool true) }] ⟨[tP 1 1, tB 10 (u03.gKind != 4)], [bC 1 (GTerm.q u03)], []⟩ (.cons (congrArg AV.bool h101) .nil) ?_
      rcases oif h with ⟨h102, h⟩ | ⟨h102, h⟩
      · refine Wc.cT h102 ?_
        apply Wc.seq
        refine Wc.r0 ⟨[tS 2 (bs [])], [], []⟩ ?_
        obtain rfl := Option.some.inj h; exact Wc.ret dn
      · refine Wc.cF h102 ?_
        refine Wc.fx [] ⟨[tP 1 1], [bC 1 (GTerm.q u03)], []⟩ ?_
        refine Wc.skip ?_
        exact ⟨rfl, h⟩
    · refine Wc.r2 [{}, {}, {}, { re := some (.bool false) }] ⟨[tP 1 1, tB 10 false], [bC 1 (GTerm.q u03)], []⟩ (.cons (congrArg AV.bool h101) .nil) ?_
      refine Wc.cF rfl ?_
      refine Wc.fx [] ⟨[tP 1 1], [bC 1 (GTerm.q u03)], []⟩ ?_
      refine Wc.skip ?_
      exact ⟨rfl, h⟩
  · rintro st ⟨rfl, h⟩
    apply Wc.seq
    obtain ⟨h98, h⟩ := oguard h
    obtain ⟨u8q, h99, h⟩ := obind h
    obtain ⟨h100, h⟩ := oguard h
    refine Wc.draw hmix [{}, {}, {}, {}, {}, { v := some (aI (u03.gKids.length : Int)) }, { r := some (.v (.str u8q) []) }] [] [2] [] [] ⟨[tS 2 ((u03.gName ++ (bs [47])) ++ u8q)], [], []⟩ _ (by kernel_rfl) (fun X => by kernel_rfl) (.cons h98 (.cons (len_obl GTerm.c u03.gKids) (.cons (cspec_Decimal h99) (.cons h100 .nil)))) ?_
    obtain rfl := Option.some.inj h; exact Wc.ret dn

def pspec_l08Head (k : Nat) (u8r : GTerm) : Option Bool :=
  (pspec_PredOf k u8r).bind fun u8s =>
  if (!(sEq u8s (bs []))) = true then
    (pspec_Control k u8s).bind fun ubp =>
    some (!ubp)
  else
    some false
theorem cspec_l08Head {k : Nat} {u8r : GTerm} {r : Bool} (h : pspec_l08Head k u8r = some r) : FnO Tryz.prog 77 [.v (.agg (GTerm.q u8r)) []] (.v (.bool r) []) [] := by
  refine FnO.o2 Tryz.func77 (rfl : Tryz.f77.body = some _) ?_
  intro w0 X0 Fin pv0 pb gt
  unfold pspec_l08Head at h
  apply Wc.seq
  refine Wc.r0 ⟨[tP 1 1], [bC 1 (GTerm.q u8r)], []⟩ ?_
  apply Wc.seq
  obtain ⟨u8s, h103, h⟩ := obind h
  refine Wc.r2 [{}, { r := some (.v (.str u8s) []) }] ⟨[tS 3 u8s], [], []⟩ (.cons (cspec_PredOf h103) .nil) ?_
  apply Wc.seq
  rcases oif h with ⟨h104, h⟩ | ⟨h104, h⟩
  · obtain ⟨ubp, h105, h⟩ := obind h
    refine Wc.r2 [{}, {}, { re := some (.bool true) }, {}, { r := some (.v (.bool ubp) []) }] ⟨[tB 2 (!ubp)], [], []⟩ (.cons (congrArg AV.bool h104) (.cons (cspec_Control h105) .nil)) ?_
    obtain rfl := Option.some.inj h; exact Wc.ret dn
  · refine Wc.r2 [{}, {}, { re := some (.bool false) }] ⟨[tB 2 false], [], []⟩ (.cons (congrArg AV.bool h104) .nil) ?_
    obtain rfl := Option.some.inj h; exact Wc.ret dn

def pspec_l08ClauseOfRaw_J1 (k : Nat) (u3z : GClause) : Option (GClause × Bool) :=
  (pspec_l08Head k u3z.gHead).bind fun ubq =>
  if (!ubq) = true then
    some (GClause.mk (GTerm.mk 0 (bs []) 0 []) (GTerm.mk 0 (bs []) 0 []) (bs []), false)
  else
    (pspec_TermOk k u3z.gBody).bind fun ubr =>
    if (!ubr) = true then
      some (GClause.mk (GTerm.mk 0 (bs []) 0 []) (GTerm.mk 0 (bs []) 0 []) (bs []), false)
    else
      some (u3z, true)
def pspec_l08ClauseOfRaw (k : Nat) (zh : GTerm) (u1q : ByteArray) : Option (GClause × Bool) :=
  (pspec_TermOk k zh).bind fun ubs =>
  if (!ubs) = true then
    some (GClause.mk (GTerm.mk 0 (bs []) 0 []) (GTerm.mk 0 (bs []) 0 []) (bs []), false)
  else
    (pspec_l03Atom k (bs [116, 114, 117, 101])).bind fun u12 =>
    (pspec_l03Is k zh (bs [58, 45]) 2).bind fun ubt =>
    if ubt = true then
      (at' zh.gKids 0).bind fun zi =>
      (at' zh.gKids 1).bind fun zz =>
      if (zz.gKind == 1) = true then
        pspec_l08ClauseOfRaw_J1 k (GClause.mk zi (GTerm.mk 4 (bs [99, 97, 108, 108]) 0 [zz]) u1q)
      else
        pspec_l08ClauseOfRaw_J1 k (GClause.mk zi zz u1q)
    else
      pspec_l08ClauseOfRaw_J1 k (GClause.mk zh u12 u1q)
set_option maxHeartbeats 4000000 in
theorem cspec_l08ClauseOfRaw {k : Nat} {zh : GTerm} {u1q : ByteArray} {r : GClause × Bool} (h : pspec_l08ClauseOfRaw k zh u1q = some r) : FnO Tryz.prog 46 [.v (.agg (GTerm.q zh)) [], .v (.str u1q) []] (.v (.tup [.agg (GClause.q r.1), .bool r.2]) []) [] := by
  refine FnO.o2 Tryz.func46 (rfl : Tryz.f46.body = some _) ?_
  intro w0 X0 Fin pv0 pb gt
  unfold pspec_l08ClauseOfRaw at h
  apply Wc.seq
  refine Wc.r0 ⟨[tS 1 u1q, tP 2 2, tP 4 4], [bC 2 (GTerm.q zh), (4, .cells GClause.z [(3, .app 31), (7, .app 31)])], []⟩ ?_
  apply Wc.seq
  apply Wc.seq
  obtain ⟨ubs, h118, h⟩ := obind h
  refine Wc.r2 [{}, { r := some (.v (.bool ubs) []) }] ⟨[tS 1 u1q, tP 2 2, tP 4 4, tB 9 (!ubs)], [bC 2 (GTerm.q zh), (4, .cells GClause.z [(3, .app 31), (7, .app 31)])], []⟩ (.cons (cspec_TermOk h118) .nil) ?_
  rcases oif h with ⟨h119, h⟩ | ⟨h119, h⟩
  · refine Wc.cT h119 ?_
    apply Wc.seq
    refine Wc.r1 [{}, { tk := [10] }] ⟨[tP 4 4, tB 5 false], [(4, .cells GClause.z [(3, .app 31), (7, .app 31)])], []⟩ ?_
    refine Wc.fx [.un (.b 4 3), .un (.b 4 7)] ⟨[tP 4 4, tB 5 false], [bC 4 GClause.z], []⟩ ?_
    obtain rfl := Option.some.inj h; exact Wc.ret dn
  · refine Wc.cF h119 ?_
    refine Wc.fx [] ⟨[tS 1 u1q, tP 2 2, tP 4 4], [bC 2 (GTerm.q zh), (4, .cells GClause.z [(3, .app 31), (7, .app 31)])], []⟩ ?_
    refine Wc.skip ?_
    apply Wc.seq
    obtain ⟨u12, h120, h⟩ := obind h
    refine Wc.draw hmix [{}, { r := some (.v (.agg (GTerm.q u12)) [(3, .app 31)]) }, {}, { tk := [12] }, {}, { tk := [14] }] [] [2, 4, 6] [2, 4, 6] [] ⟨[tP 2 2, tP 4 4, tP 6 6], [bC 2 (GTerm.q zh), (4, .cells GClause.z [(3, .app 31), (7, .app 31)]), (6, .cells [aI zh.gKind, .str zh.gName, aI zh.gNum, .sl (List.map GTerm.c zh.gKids), aI u12.gKind, .str u12.gName, aI u12.gNum, .sl (List.map GTerm.c u12.gKids), .str u1q] [(7, .app 31)])], []⟩ _ (by kernel_rfl) (fun X => by kernel_rfl) (.cons (cspec_l03Atom h120) .nil) ?_
    refine Wc.seqJ (fun st => ∃ (u3z : GClause), st = ⟨[tP 4 4, tP 6 6], [(4, .cells GClause.z [(3, .app 31), (7, .app 31)]), bC 6 (GClause.q u3z)], []⟩ ∧ pspec_l08ClauseOfRaw_J1 k u3z = some r) ?_ ?_
    · apply Wc.seq
      obtain ⟨ubt, h125, h⟩ := obind h
      refine Wc.r2 [{}, { r := some (.v (.bool ubt) []) }] ⟨[tP 2 2, tP 4 4, tP 6 6, tB 16 ubt], [bC 2 (GTerm.q zh), (4, .cells GClause.z [(3, .app 31), (7, .app 31)]), (6, .cells [aI zh.gKind, .str zh.gName, aI zh.gNum, .sl (List.map GTerm.c zh.gKids), aI u12.gKind, .str u12.gName, aI u12.gNum, .sl (List.map GTerm.c u12.gKids), .str u1q] [(7, .app 31)])], []⟩ (.cons (cspec_l03Is h125) .nil) ?_
      rcases oif h with ⟨h126, h⟩ | ⟨h126, h⟩
      · refine Wc.cT h126 ?_
        apply Wc.seq
        obtain ⟨zi, h127, h⟩ := obind h
        refine Wc.r2 [{}, {}, { v := some (.vptr (GTerm.q zi)) }] ⟨[tP 2 2, tP 4 4, tP 6 6], [bC 2 (GTerm.q zh), (4, .cells GClause.z [(3, .app 31), (7, .app 31)]), (6, .cells [aI zi.gKind, .str zi.gName, aI zi.gNum, .sl (List.map GTerm.c zi.gKids), aI u12.gKind, .str u12.gName, aI u12.gNum, .sl (List.map GTerm.c u12.gKids), .str u1q] [(7, .app 31)])], []⟩ (.cons (at_obl (c := GTerm.c) (GTerm.c_eq zi) GTerm.c_len h127) (.cons (len_ok 4 (GTerm.q zi)) .nil)) ?_
        apply Wc.seq
        obtain ⟨zz, h128, h⟩ := obind h
        refine Wc.r2 [{}, {}, { v := some (.vptr (GTerm.q zz)) }] ⟨[tP 4 4, tP 6 6], [(4, .cells GClause.z [(3, .app 31), (7, .app 31)]), bC 6 [aI zi.gKind, .str zi.gName, aI zi.gNum, .sl (List.map GTerm.c zi.gKids), aI zz.gKind, .str zz.gName, aI zz.gNum, .sl (List.map GTerm.c zz.gKids), .str u1q]], []⟩ (.cons (at_obl (c := GTerm.c) (GTerm.c_eq zz) GTerm.c_len h128) (.cons (len_ok 4 (GTerm.q zz)) .nil)) ?_
        apply Wc.seq
        refine Wc.r0 ⟨[tP 4 4, tP 6 6, tB 30 (zz.gKind == 1)], [(4, .cells GClause.z [(3, .app 31), (7, .app 31)]), bC 6 [aI zi.gKind, .str zi.gName, aI zi.gNum, .sl (List.map GTerm.c zi.gKids), aI zz.gKind, .str zz.gName, aI zz.gNum, .sl (List.map GTerm.c zz.gKids), .str u1q]], []⟩ ?_
        rcases oif h with ⟨h129, h⟩ | ⟨h129, h⟩
        · refine Wc.cT h129 ?_
          refine Wc.r3 [{}, {}, { c := some (List.map GTerm.c [zz]) }, { tk := [33] }, {}, { tk := [34] }] [.un (.b 6 7)] ⟨[tP 4 4, tP 6 6], [(4, .cells GClause.z [(3, .app 31), (7, .app 31)]), bC 6 [aI zi.gKind, .str zi.gName, aI zi.gNum, .sl (List.map GTerm.c zi.gKids), aI 4, .str (bs [99, 97, 108, 108]), aI 0, .sl (List.map GTerm.c [zz]), .str u1q]], []⟩ (.cons (cl_cons (c := GTerm.c) (x := zz) (GTerm.c_eq zz) (cl_nil GTerm.c)) .nil) ?_
          exact ⟨_, rfl, h⟩
        · refine Wc.cF h129 ?_
          refine Wc.fx [] ⟨[tP 4 4, tP 6 6], [(4, .cells GClause.z [(3, .app 31), (7, .app 31)]), bC 6 [aI zi.gKind, .str zi.gName, aI zi.gNum, .sl (List.map GTerm.c zi.gKids), aI zz.gKind, .str zz.gName, aI zz.gNum, .sl (List.map GTerm.c zz.gKids), .str u1q]], []⟩ ?_
          refine Wc.skip ?_
          exact ⟨_, rfl, h⟩
      · refine Wc.cF h126 ?_
        refine Wc.fx [.un (.b 6 7)] ⟨[tP 4 4, tP 6 6], [(4, .cells GClause.z [(3, .app 31), (7, .app 31)]), bC 6 [aI zh.gKind, .str zh.gName, aI zh.gNum, .sl (List.map GTerm.c zh.gKids), aI u12.gKind, .str u12.gName, aI u12.gNum, .sl (List.map GTerm.c u12.gKids), .str u1q]], []⟩ ?_
        refine Wc.skip ?_
        exact ⟨_, rfl, h⟩
    · rintro st ⟨u3z, rfl, h⟩
      apply Wc.seq
      apply Wc.seq
      obtain ⟨ubq, h121, h⟩ := obind h
      rcases oif h with ⟨h122, h⟩ | ⟨h122, h⟩
      · refine Wc.r2 [{}, {}, { r := some (.v (.bool ubq) []) }, {}, { re := some (.bool true) }] ⟨[tP 4 4, tP 6 6, tB 45 true], [(4, .cells GClause.z [(3, .app 31), (7, .app 31)]), bC 6 (GClause.q u3z)], []⟩ (.cons (cspec_l08Head h121) (.cons (congrArg AV.bool h122) .nil)) ?_
        refine Wc.cT rfl ?_
        apply Wc.seq
        refine Wc.r1 [{}, { tk := [46] }] ⟨[tP 4 4, tB 5 false], [(4, .cells GClause.z [(3, .app 31), (7, .app 31)])], []⟩ ?_
        refine Wc.fx [.un (.b 4 3), .un (.b 4 7)] ⟨[tP 4 4, tB 5 false], [bC 4 GClause.z], []⟩ ?_
        obtain rfl := Option.some.inj h; exact Wc.ret dn
      · obtain ⟨ubr, h123, h⟩ := obind h
        refine Wc.r2 [{}, {}, { r := some (.v (.bool ubq) []) }, {}, { re := some (.bool false) }, {}, {}, { r := some (.v (.bool ubr) []) }] ⟨[tP 4 4, tP 6 6, tB 45 (!ubr)], [(4, .cells GClause.z [(3, .app 31), (7, .app 31)]), bC 6 (GClause.q u3z)], []⟩ (.cons (cspec_l08Head h121) (.cons (congrArg AV.bool h122) (.cons (cspec_TermOk h123) .nil))) ?_
        rcases oif h with ⟨h124, h⟩ | ⟨h124, h⟩
        · refine Wc.cT h124 ?_
          apply Wc.seq
          refine Wc.r1 [{}, { tk := [46] }] ⟨[tP 4 4, tB 5 false], [(4, .cells GClause.z [(3, .app 31), (7, .app 31)])], []⟩ ?_
          refine Wc.fx [.un (.b 4 3), .un (.b 4 7)] ⟨[tP 4 4, tB 5 false], [bC 4 GClause.z], []⟩ ?_
          obtain rfl := Option.some.inj h; exact Wc.ret dn
        · refine Wc.cF h124 ?_
          refine Wc.fx [] ⟨[tP 4 4, tP 6 6], [(4, .cells GClause.z [(3, .app 31), (7, .app 31)]), bC 6 (GClause.q u3z)], []⟩ ?_
          refine Wc.skip ?_
          apply Wc.seq
          refine Wc.r0 ⟨[tP 4 4, tB 5 true], [bC 4 (GClause.q u3z)], []⟩ ?_
          obtain rfl := Option.some.inj h; exact Wc.ret dn

def pspec_l34Terms_L1 (k : Nat) (rspec_l34Term : GTerm → Option GTerm) (rspec_l34Terms : (List GTerm) → Option (List GTerm)) (zs : List GTerm) : Nat → (List GTerm) → Int → Option (Out (List GTerm) (List GTerm))
  | 0, _, _ => none
  | m + 1, u2f, u3n =>
    if (decide (u3n < (zs.length : Int))) = true then
      (at' zs u3n).bind fun u8t =>
      (rspec_l34Term u8t).bind fun u35 =>
      if u2f.length + [u35].length ≤ 1073741824 then
        pspec_l34Terms_L1 k rspec_l34Term rspec_l34Terms zs m (u2f ++ [u35]) (wr.i64 (u3n + 1))
      else none
    else
      some (.done u2f)
mutual
def pspec_l34Term : Nat → GTerm → Option GTerm
  | 0, _ => none
  | k + 1, u13 =>
    (pspec_l34Terms k u13.gKids).bind fun u8u =>
    some (GTerm.mk u13.gKind u13.gName u13.gNum u8u)
def pspec_l34Terms : Nat → (List GTerm) → Option (List GTerm)
  | 0, _ => none
  | k + 1, zs =>
    (pspec_l34Terms_L1 k (pspec_l34Term k) (pspec_l34Terms k) zs k [] 0).bind fun out1 => match out1 with
    | .ret r => some r
    | .done u6r =>
      some u6r
end
theorem all_pspec_l34Term : ∀ k : Nat, (∀ {u13 : GTerm} {r : GTerm}, pspec_l34Term k u13 = some r → FnO Tryz.prog 68 [.v (.agg (GTerm.q u13)) []] (.v (.agg (GTerm.q r)) [(3, .app 31)]) []) ∧
    (∀ {zs : List GTerm} {r : (List GTerm)}, pspec_l34Terms k zs = some r → FnO Tryz.prog 89 [.v (.sl (List.map GTerm.c zs)) []] (.v (.sl (List.map GTerm.c r)) [(0, .app 31)]) []) := by
  intro k
  induction k with
  | zero =>
    refine ⟨?_, ?_⟩
    · intro u13 r h
      exact (onone (by rw [pspec_l34Term] at h; exact h)).elim
    · intro zs r h
      exact (onone (by rw [pspec_l34Terms] at h; exact h)).elim
  | succ k ih =>
    obtain ⟨ih_pspec_l34Term, ih_pspec_l34Terms⟩ := ih
    refine ⟨?_, ?_⟩
    · intro u13 r h
      rw [pspec_l34Term] at h
      refine FnO.o2 Tryz.func68 (rfl : Tryz.f68.body = some _) ?_
      intro w0 X0 Fin pv0 pb gt
      apply Wc.seq
      refine Wc.r0 ⟨[tP 1 1, tP 2 2], [bC 1 (GTerm.q u13), (2, .cells GTerm.z [(3, .app 31)])], []⟩ ?_
      apply Wc.seq
      obtain ⟨u8u, h142, h⟩ := obind h
      refine Wc.r2 [{}, {}, { r := some (.v (.sl (List.map GTerm.c u8u)) [(0, .app 31)]) }, {}, { tk := [5] }] ⟨[tP 1 1, tP 2 2], [(1, .cells [aI u13.gKind, .str u13.gName, aI u13.gNum, .sl (List.map GTerm.c u8u)] [(3, .app 31)]), (2, .cells GTerm.z [(3, .app 31)])], []⟩ (.cons (ih_pspec_l34Terms h142) .nil) ?_
      apply Wc.seq
      refine Wc.r1 [{ md := 1 }, { tk := [7] }] ⟨[tP 2 2], [(2, .cells [aI u13.gKind, .str u13.gName, aI u13.gNum, .sl (List.map GTerm.c u8u)] [(3, .app 31)])], []⟩ ?_
      obtain rfl := Option.some.inj h; exact Wc.ret dn
    · intro zs r h
      rw [pspec_l34Terms] at h
      refine FnO.o2 Tryz.func89 (rfl : Tryz.f89.body = some _) ?_
      intro w0 X0 Fin pv0 pb gt
      apply Wc.seq
      refine Wc.r0 ⟨[tV 0 (.sl (List.map GTerm.c zs))], [], []⟩ ?_
      apply Wc.seq
      refine Wc.r2 [{ c := some (List.map GTerm.c []) }, { tk := [5] }] ⟨[tV 0 (.sl (List.map GTerm.c zs)), (3, (.v (.sl (List.map GTerm.c [])), [(0, .app 31)]))], [], []⟩ (.cons (cl_nil GTerm.c) .nil) ?_
      apply Wc.seq
      apply Wc.seq
      refine Wc.r0 ⟨[tV 0 (.sl (List.map GTerm.c zs)), (3, (.v (.sl (List.map GTerm.c [])), [(0, .app 31)])), tI 4 0], [], []⟩ ?_
      obtain ⟨out1, h143, h⟩ := obind h
      refine Wc.lastJ (fun st => ∃ (u6r : List GTerm), out1 = .done u6r ∧ st = ⟨[(3, (.v (.sl (List.map GTerm.c u6r)), [(0, .app 31)]))], [], []⟩) ?_ ?_
      · refine Wc.block ?_
        refine Wc.loop (fun m st => ∃ (u2f : List GTerm) (u3n : Int), st = ⟨[tV 0 (.sl (List.map GTerm.c zs)), (3, (.v (.sl (List.map GTerm.c u2f)), [(0, .app 31)])), tI 4 u3n], [], []⟩ ∧ pspec_l34Terms_L1 k (pspec_l34Term k) (pspec_l34Terms k) zs m u2f u3n = some out1) ?_ k ⟨_, _, rfl, h143⟩
        rintro m st ⟨u2f, u3n, rfl, h143⟩
        cases m with
        | zero => exact (onone h143).elim
        | succ m =>
          apply Wc.seq
          apply Wc.seq
          refine Wc.r2 [{}, {}, { v := some (aI (zs.length : Int)) }] ⟨[tV 0 (.sl (List.map GTerm.c zs)), (3, (.v (.sl (List.map GTerm.c u2f)), [(0, .app 31)])), tI 4 u3n, tB 9 (decide (u3n < (zs.length : Int)))], [], []⟩ (.cons (len_obl GTerm.c zs) .nil) ?_
          rcases oif h143 with ⟨h144, h143⟩ | ⟨h144, h143⟩
          · refine Wc.cT h144 ?_
            refine Wc.fx [] ⟨[tV 0 (.sl (List.map GTerm.c zs)), (3, (.v (.sl (List.map GTerm.c u2f)), [(0, .app 31)])), tI 4 u3n], [], []⟩ ?_
            refine Wc.skip ?_
            apply Wc.seq
            refine Wc.block ?_
            obtain ⟨u8t, h145, h143⟩ := obind h143
            obtain ⟨u35, h146, h143⟩ := obind h143
            obtain ⟨h147, h143⟩ := oguard h143
            refine Wc.r2 [{ tk := [3] }, {}, {}, { v := some (.vptr (GTerm.q u8t)) }, {}, { r := some (.v (.agg (GTerm.q u35)) [(3, .app 31)]) }, { c := some (List.map GTerm.c [u35]) }, { c := some (List.map GTerm.c (u2f ++ [u35])), tk := [12] }, { tk := [19] }] ⟨[tV 0 (.sl (List.map GTerm.c zs)), (3, (.v (.sl (List.map GTerm.c (u2f ++ [u35]))), [(0, .app 31)])), tI 4 u3n], [], []⟩ (.cons (at_obl (c := GTerm.c) (GTerm.c_eq u8t) GTerm.c_len h145) (.cons (len_ok 4 (GTerm.q u8t)) (.cons (ih_pspec_l34Term h146) (.cons (cl_cons (c := GTerm.c) (x := u35) (GTerm.c_eq u35) (cl_nil GTerm.c)) (.cons (app_re2 GTerm.c u2f [u35]) (.cons (app_leaf (c := GTerm.c) (ys := [u35]) GTerm.c_leaf) (.cons (app_obl2 (c := GTerm.c) (xs := u2f) (ys := [u35]) GTerm.c_len h147) .nil))))))) ?_
            refine Wc.r0 ⟨[tV 0 (.sl (List.map GTerm.c zs)), (3, (.v (.sl (List.map GTerm.c (u2f ++ [u35]))), [(0, .app 31)])), tI 4 (wr.i64 (u3n + 1))], [], []⟩ ?_
            exact ⟨_, Nat.lt_succ_self _, _, _, rfl, h143⟩
          · refine Wc.cF h144 ?_
            refine Wc.fx [] ⟨[(3, (.v (.sl (List.map GTerm.c u2f)), [(0, .app 31)]))], [], []⟩ ?_
            refine Wc.exit ?_
            obtain rfl := Option.some.inj h143
            exact ⟨_, rfl, rfl⟩
      · rintro st ⟨u6r, rfl, rfl⟩
        apply Wc.seq
        refine Wc.r1 [{ tk := [3] }, { tk := [20] }] ⟨[(2, (.v (.sl (List.map GTerm.c u6r)), [(0, .app 31)]))], [], []⟩ ?_
        obtain rfl := Option.some.inj h; exact Wc.ret dn
theorem cspec_l34Term {k : Nat} {u13 : GTerm} {r : GTerm} (h : pspec_l34Term k u13 = some r) : FnO Tryz.prog 68 [.v (.agg (GTerm.q u13)) []] (.v (.agg (GTerm.q r)) [(3, .app 31)]) [] := (all_pspec_l34Term k).1 h


def pspec_l34Clause (k : Nat) (u2t : GClause) : Option GClause :=
  (pspec_l34Term k u2t.gHead).bind fun u2g =>
  (pspec_l34Term k u2t.gBody).bind fun u40 =>
  some (GClause.mk u2g u40 u2t.gFile)
theorem cspec_l34Clause {k : Nat} {u2t : GClause} {r : GClause} (h : pspec_l34Clause k u2t = some r) : FnO Tryz.prog 47 [.v (.agg (GClause.q u2t)) []] (.v (.agg (GClause.q r)) [(3, .app 31), (7, .app 31)]) [] := by
  refine FnO.o2 Tryz.func47 (rfl : Tryz.f47.body = some _) ?_
  intro w0 X0 Fin pv0 pb gt
  unfold pspec_l34Clause at h
  apply Wc.seq
  refine Wc.r0 ⟨[tP 1 1, tP 2 2], [bC 1 (GClause.q u2t), (2, .cells GClause.z [(3, .app 31), (7, .app 31)])], []⟩ ?_
  apply Wc.seq
  obtain ⟨u2g, h150, h⟩ := obind h
  refine Wc.r2 [{}, {}, { r := some (.v (.agg (GTerm.q u2g)) [(3, .app 31)]) }, {}, { tk := [5] }] ⟨[tP 1 1, tP 2 2], [(1, .cells [aI u2g.gKind, .str u2g.gName, aI u2g.gNum, .sl (List.map GTerm.c u2g.gKids), aI u2t.gBody.gKind, .str u2t.gBody.gName, aI u2t.gBody.gNum, .sl (List.map GTerm.c u2t.gBody.gKids), .str u2t.gFile] [(3, .app 31)]), (2, .cells GClause.z [(3, .app 31), (7, .app 31)])], []⟩ (.cons (cspec_l34Term h150) .nil) ?_
  apply Wc.seq
  obtain ⟨u40, h151, h⟩ := obind h
  refine Wc.r2 [{}, {}, { r := some (.v (.agg (GTerm.q u40)) [(3, .app 31)]) }, {}, { tk := [9] }] ⟨[tP 1 1, tP 2 2], [(1, .cells [aI u2g.gKind, .str u2g.gName, aI u2g.gNum, .sl (List.map GTerm.c u2g.gKids), aI u40.gKind, .str u40.gName, aI u40.gNum, .sl (List.map GTerm.c u40.gKids), .str u2t.gFile] [(3, .app 31), (7, .app 31)]), (2, .cells GClause.z [(3, .app 31), (7, .app 31)])], []⟩ (.cons (cspec_l34Term h151) .nil) ?_
  apply Wc.seq
  refine Wc.r1 [{ md := 1 }, { tk := [11] }] ⟨[tP 2 2], [(2, .cells [aI u2g.gKind, .str u2g.gName, aI u2g.gNum, .sl (List.map GTerm.c u2g.gKids), aI u40.gKind, .str u40.gName, aI u40.gNum, .sl (List.map GTerm.c u40.gKids), .str u2t.gFile] [(3, .app 31), (7, .app 31)])], []⟩ ?_
  obtain rfl := Option.some.inj h; exact Wc.ret dn

def pspec_ClauseOf (k : Nat) (u8v : GTerm) (u8w : ByteArray) : Option (GClause × Bool) :=
  (pspec_l08ClauseOfRaw k u8v u8w).bind fun u5a =>
  (pspec_l34Clause k u5a.1).bind fun ubu =>
  some (ubu, u5a.2)
theorem cspec_ClauseOf {k : Nat} {u8v : GTerm} {u8w : ByteArray} {r : GClause × Bool} (h : pspec_ClauseOf k u8v u8w = some r) : FnO Tryz.prog 8 [.v (.agg (GTerm.q u8v)) [], .v (.str u8w) []] (.v (.tup [.agg (GClause.q r.1), .bool r.2]) [(3, .app 31), (7, .app 31)]) [] := by
  refine FnO.o2 Tryz.func8 (rfl : Tryz.f8.body = some _) ?_
  intro w0 X0 Fin pv0 pb gt
  unfold pspec_ClauseOf at h
  apply Wc.seq
  refine Wc.r0 ⟨[tS 1 u8w, tP 2 2, tP 4 4], [bC 2 (GTerm.q u8v), (4, .cells GClause.z [(3, .app 31), (7, .app 31)])], []⟩ ?_
  apply Wc.seq
  obtain ⟨u5a, h154, h⟩ := obind h
  refine Wc.r2 [{}, {}, { r := some (.v (.tup [.agg (GClause.q u5a.1), .bool u5a.2]) []) }] ⟨[tP 4 4, tP 6 6, tB 7 u5a.2], [(4, .cells GClause.z [(3, .app 31), (7, .app 31)]), bC 6 (GClause.q u5a.1)], []⟩ (.cons (cspec_l08ClauseOfRaw h154) .nil) ?_
  apply Wc.seq
  obtain ⟨ubu, h155, h⟩ := obind h
  refine Wc.r2 [{}, { r := some (.v (.agg (GClause.q ubu)) [(3, .app 31), (7, .app 31)]) }, {}, { tk := [15] }] ⟨[tP 4 4, tB 5 u5a.2], [(4, .cells (GClause.q ubu) [(3, .app 31), (7, .app 31)])], []⟩ (.cons (cspec_l34Clause h155) .nil) ?_
  obtain rfl := Option.some.inj h; exact Wc.ret dn

def pspec_l08Clause (k : Nat) (u5s : GClause) : Option Bool :=
  (pspec_TermOk k u5s.gHead).bind fun u8x =>
  if u8x = true then
    (pspec_TermOk k u5s.gBody).bind fun ubv =>
    if ubv = true then
      (pspec_l08Head k u5s.gHead).bind fun ubw =>
      some ubw
    else
      some false
  else
    some false
theorem cspec_l08Clause {k : Nat} {u5s : GClause} {r : Bool} (h : pspec_l08Clause k u5s = some r) : FnO Tryz.prog 63 [.v (.agg (GClause.q u5s)) []] (.v (.bool r) []) [] := by
  refine FnO.o2 Tryz.func63 (rfl : Tryz.f63.body = some _) ?_
  intro w0 X0 Fin pv0 pb gt
  unfold pspec_l08Clause at h
  apply Wc.seq
  refine Wc.r0 ⟨[tP 1 1], [bC 1 (GClause.q u5s)], []⟩ ?_
  apply Wc.seq
  obtain ⟨u8x, h156, h⟩ := obind h
  rcases oif h with ⟨h157, h⟩ | ⟨h157, h⟩
  · obtain ⟨ubv, h158, h⟩ := obind h
    rcases oif h with ⟨h159, h⟩ | ⟨h159, h⟩
    · obtain ⟨ubw, h160, h⟩ := obind h
      refine Wc.r2 [{}, {}, { r := some (.v (.bool u8x) []) }, { re := some (.bool true) }, {}, {}, { r := some (.v (.bool ubv) []) }, {}, { re := some (.bool true) }, {}, {}, { r := some (.v (.bool ubw) []) }] ⟨[tB 2 ubw], [], []⟩ (.cons (cspec_TermOk h156) (.cons (congrArg AV.bool h157) (.cons (cspec_TermOk h158) (.cons (congrArg AV.bool h159) (.cons (cspec_l08Head h160) .nil))))) ?_
      obtain rfl := Option.some.inj h; exact Wc.ret dn
    · refine Wc.r2 [{}, {}, { r := some (.v (.bool u8x) []) }, { re := some (.bool true) }, {}, {}, { r := some (.v (.bool ubv) []) }, {}, { re := some (.bool false) }] ⟨[tB 2 false], [], []⟩ (.cons (cspec_TermOk h156) (.cons (congrArg AV.bool h157) (.cons (cspec_TermOk h158) (.cons (congrArg AV.bool h159) .nil)))) ?_
      obtain rfl := Option.some.inj h; exact Wc.ret dn
  · refine Wc.r2 [{}, {}, { r := some (.v (.bool u8x) []) }, { re := some (.bool false) }] ⟨[tB 2 false], [], []⟩ (.cons (cspec_TermOk h156) (.cons (congrArg AV.bool h157) .nil)) ?_
    obtain rfl := Option.some.inj h; exact Wc.ret dn

def pspec_DbOk_L1 (k : Nat) (vm : GDb) : Nat → Int → Option (Out Bool Unit)
  | 0, _ => none
  | m + 1, u36 =>
    if (decide (u36 < (vm.gClauses.length : Int))) = true then
      (at' vm.gClauses u36).bind fun u8y =>
      (pspec_l08Clause k u8y).bind fun ubx =>
      if (!ubx) = true then
        some (.ret false)
      else
        pspec_DbOk_L1 k vm m (wr.i64 (u36 + 1))
    else
      some (.done ())
def pspec_DbOk (k : Nat) (vm : GDb) : Option Bool :=
  (pspec_DbOk_L1 k vm k 0).bind fun out1 => match out1 with
  | .ret r => some r
  | .done () =>
    if (decide ((vm.gClauses.length : Int) ≤ 120)) = true then
      some (decide ((vm.gOpen.length : Int) ≤ 40))
    else
      some false
theorem cspec_DbOk {k : Nat} {vm : GDb} {r : Bool} (h : pspec_DbOk k vm = some r) : FnO Tryz.prog 27 [.v (.agg (GDb.q vm)) []] (.v (.bool r) []) [] := by
  refine FnO.o2 Tryz.func27 (rfl : Tryz.f27.body = some _) ?_
  intro w0 X0 Fin pv0 pb gt
  unfold pspec_DbOk at h
  apply Wc.seq
  refine Wc.r0 ⟨[tP 1 1], [bC 1 (GDb.q vm)], []⟩ ?_
  apply Wc.seq
  apply Wc.seq
  refine Wc.r0 ⟨[tP 1 1, tI 3 0], [bC 1 (GDb.q vm)], []⟩ ?_
  obtain ⟨out1, h161, h⟩ := obind h
  refine Wc.lastJ (fun st => out1 = .done () ∧ st = ⟨[tP 1 1], [bC 1 (GDb.q vm)], []⟩) ?_ ?_
  · refine Wc.block ?_
    refine Wc.loop (fun m st => ∃ (u36 : Int), st = ⟨[tP 1 1, tI 3 u36], [bC 1 (GDb.q vm)], []⟩ ∧ pspec_DbOk_L1 k vm m u36 = some out1) ?_ k ⟨_, rfl, h161⟩
    rintro m st ⟨u36, rfl, h161⟩
    cases m with
    | zero => exact (onone h161).elim
    | succ m =>
      apply Wc.seq
      apply Wc.seq
      refine Wc.r2 [{}, {}, {}, { v := some (aI (vm.gClauses.length : Int)) }] ⟨[tP 1 1, tI 3 u36, tB 8 (decide (u36 < (vm.gClauses.length : Int)))], [bC 1 (GDb.q vm)], []⟩ (.cons (len_obl GClause.c vm.gClauses) .nil) ?_
      rcases oif h161 with ⟨h162, h161⟩ | ⟨h162, h161⟩
      · refine Wc.cT h162 ?_
        refine Wc.fx [] ⟨[tP 1 1, tI 3 u36], [bC 1 (GDb.q vm)], []⟩ ?_
        refine Wc.skip ?_
        apply Wc.seq
        refine Wc.block ?_
        apply Wc.seq
        obtain ⟨u8y, h163, h161⟩ := obind h161
        obtain ⟨ubx, h164, h161⟩ := obind h161
        refine Wc.r2 [{}, {}, {}, { v := some (.vptr (GClause.q u8y)) }, {}, { r := some (.v (.bool ubx) []) }] ⟨[tP 1 1, tI 3 u36, tB 17 (!ubx)], [bC 1 (GDb.q vm)], []⟩ (.cons (at_obl (c := GClause.c) (GClause.c_eq u8y) GClause.c_len h163) (.cons (len_ok 9 (GClause.q u8y)) (.cons (cspec_l08Clause h164) .nil))) ?_
        rcases oif h161 with ⟨h165, h161⟩ | ⟨h165, h161⟩
        · refine Wc.cT h165 ?_
          apply Wc.seq
          refine Wc.r0 ⟨[tB 2 false], [], []⟩ ?_
          refine Wc.ret ?_
          obtain rfl := Option.some.inj h161
          obtain rfl := Option.some.inj h
          exact ⟨.inl rfl, by kernel_rfl, by kernel_rfl⟩
        · refine Wc.cF h165 ?_
          refine Wc.fx [] ⟨[tP 1 1, tI 3 u36], [bC 1 (GDb.q vm)], []⟩ ?_
          refine Wc.skip ?_
          refine Wc.r0 ⟨[tP 1 1, tI 3 (wr.i64 (u36 + 1))], [bC 1 (GDb.q vm)], []⟩ ?_
          exact ⟨_, Nat.lt_succ_self _, _, rfl, h161⟩
      · refine Wc.cF h162 ?_
        refine Wc.fx [] ⟨[tP 1 1], [bC 1 (GDb.q vm)], []⟩ ?_
        refine Wc.exit ?_
        obtain rfl := Option.some.inj h161
        exact ⟨rfl, rfl⟩
  · rintro st ⟨rfl, rfl⟩
    apply Wc.seq
    rcases oif h with ⟨h166, h⟩ | ⟨h166, h⟩
    · refine Wc.r2 [{}, {}, { v := some (aI (vm.gClauses.length : Int)) }, {}, { re := some (.bool true) }, {}, {}, { v := some (aI (vm.gOpen.length : Int)) }] ⟨[tB 2 (decide ((vm.gOpen.length : Int) ≤ 40))], [], []⟩ (.cons (len_obl GClause.c vm.gClauses) (.cons (congrArg AV.bool h166) (.cons (len_obl cS vm.gOpen) .nil))) ?_
      obtain rfl := Option.some.inj h; exact Wc.ret dn
    · refine Wc.r2 [{}, {}, { v := some (aI (vm.gClauses.length : Int)) }, {}, { re := some (.bool false) }] ⟨[tB 2 false], [], []⟩ (.cons (len_obl GClause.c vm.gClauses) (.cons (congrArg AV.bool h166) .nil)) ?_
      obtain rfl := Option.some.inj h; exact Wc.ret dn

def pspec_l08Copy (k : Nat) (u20 : GDb) : Option GDb :=
  if ([] : List GClause).length + u20.gClauses.length ≤ 1073741824 then
    if ([] : List ByteArray).length + u20.gOpen.length ≤ 1073741824 then
      some u20
    else none
  else none
theorem cspec_l08Copy {k : Nat} {u20 : GDb} {r : GDb} (h : pspec_l08Copy k u20 = some r) : FnO Tryz.prog 78 [.v (.agg (GDb.q u20)) []] (.v (.agg (GDb.q r)) [(0, .app 35), (1, .app 9)]) [] := by
  refine FnO.o2 Tryz.func78 (rfl : Tryz.f78.body = some _) ?_
  intro w0 X0 Fin pv0 pb gt
  unfold pspec_l08Copy at h
  apply Wc.seq
  refine Wc.r0 ⟨[tP 1 1, tP 2 2], [bC 1 (GDb.q u20), (2, .cells GDb.z [(0, .app 35), (1, .app 9)])], []⟩ ?_
  apply Wc.seq
  obtain ⟨h169, h⟩ := oguard h
  obtain ⟨h170, h⟩ := oguard h
  refine Wc.draw hmix [{ c := some (List.map GClause.c []) }, {}, {}, { c := some (List.map GClause.c u20.gClauses), tk := [3] }, { c := some (List.map cS []) }, {}, {}, { c := some (List.map cS u20.gOpen), tk := [7] }, { tk := [6, 10] }, { tk := [11] }] [] [2] [2] [] ⟨[tP 2 2], [(2, .cells (GDb.q u20) [(0, .app 35), (1, .app 9)])], []⟩ _ (by kernel_rfl) (fun X => by kernel_rfl) (.cons (cl_nil GClause.c) (.cons (app_re0 GClause.c u20.gClauses) (.cons (app_leaf (c := GClause.c) (ys := u20.gClauses) GClause.c_leaf) (.cons (app_obl2 (c := GClause.c) (xs := []) (ys := u20.gClauses) GClause.c_len h169) (.cons (cl_nil cS) (.cons (app_re0 cS u20.gOpen) (.cons (app_leaf (c := cS) (ys := u20.gOpen) cS_leaf) (.cons (app_obl2 (c := cS) (xs := []) (ys := u20.gOpen) cS_len h170) .nil)))))))) ?_
  obtain rfl := Option.some.inj h; exact Wc.ret dn

def pspec_l08AddedRaw (k : Nat) (u4s : GDb) (u14 : GClause) : Option (GDb × Bool) :=
  (pspec_l08Copy k u4s).bind fun u15 =>
  if u15.gClauses.length + [u14].length ≤ 1073741824 then
    (pspec_DbOk k (GDb.mk (u15.gClauses ++ [u14]) u15.gOpen)).bind fun uby =>
    if (!uby) = true then
      (pspec_l08Copy k u4s).bind fun ubz =>
      some (ubz, false)
    else
      some (GDb.mk (u15.gClauses ++ [u14]) u15.gOpen, true)
  else none
theorem cspec_l08AddedRaw {k : Nat} {u4s : GDb} {u14 : GClause} {r : GDb × Bool} (h : pspec_l08AddedRaw k u4s u14 = some r) : FnO Tryz.prog 51 [.v (.agg (GDb.q u4s)) [], .v (.agg (GClause.q u14)) []] (.v (.tup [.agg (GDb.q r.1), .bool r.2]) [(0, .app 35), (1, .app 9)]) [] := by
  refine FnO.o2 Tryz.func51 (rfl : Tryz.f51.body = some _) ?_
  intro w0 X0 Fin pv0 pb gt
  unfold pspec_l08AddedRaw at h
  apply Wc.seq
  refine Wc.r0 ⟨[tP 2 2, tP 3 3, tP 4 4], [bC 2 (GDb.q u4s), bC 3 (GClause.q u14), (4, .cells GDb.z [(0, .app 35), (1, .app 9)])], []⟩ ?_
  apply Wc.seq
  obtain ⟨u15, h176, h⟩ := obind h
  refine Wc.r2 [{}, { r := some (.v (.agg (GDb.q u15)) [(0, .app 35), (1, .app 9)]) }, {}, { tk := [8] }] ⟨[tP 2 2, tP 3 3, tP 4 4, tP 6 6], [bC 2 (GDb.q u4s), bC 3 (GClause.q u14), (4, .cells GDb.z [(0, .app 35), (1, .app 9)]), (6, .cells (GDb.q u15) [(0, .app 35), (1, .app 9)])], []⟩ (.cons (cspec_l08Copy h176) .nil) ?_
  apply Wc.seq
  obtain ⟨h177, h⟩ := oguard h
  refine Wc.r3 [{}, { md := 1 }, {}, { c := some (List.map GClause.c [u14]) }, { c := some (List.map GClause.c (u15.gClauses ++ [u14])), tk := [10] }, {}, { tk := [13] }] [.so 6] ⟨[tP 2 2, tP 4 4, tP 6 6], [bC 2 (GDb.q u4s), (4, .cells GDb.z [(0, .app 35), (1, .app 9)]), (6, .cells [.sl (List.map GClause.c (u15.gClauses ++ [u14])), .sl (List.map cS u15.gOpen)] [(0, .app 35), (1, .app 9)])], []⟩ (.cons (cl_cons (c := GClause.c) (x := u14) (GClause.c_eq u14) (cl_nil GClause.c)) (.cons (app_re2 GClause.c u15.gClauses [u14]) (.cons (app_leaf (c := GClause.c) (ys := [u14]) GClause.c_leaf) (.cons (app_obl2 (c := GClause.c) (xs := u15.gClauses) (ys := [u14]) GClause.c_len h177) .nil)))) ?_
  apply Wc.seq
  apply Wc.seq
  obtain ⟨uby, h178, h⟩ := obind h
  refine Wc.r2 [{}, { r := some (.v (.bool uby) []) }] ⟨[tP 2 2, tP 4 4, tP 6 6, tB 17 (!uby)], [bC 2 (GDb.q u4s), (4, .cells GDb.z [(0, .app 35), (1, .app 9)]), (6, .cells [.sl (List.map GClause.c (u15.gClauses ++ [u14])), .sl (List.map cS u15.gOpen)] [(0, .app 35), (1, .app 9)])], []⟩ (.cons (cspec_DbOk h178) .nil) ?_
  rcases oif h with ⟨h179, h⟩ | ⟨h179, h⟩
  · refine Wc.cT h179 ?_
    apply Wc.seq
    obtain ⟨ubz, h180, h⟩ := obind h
    refine Wc.r2 [{}, { r := some (.v (.agg (GDb.q ubz)) [(0, .app 35), (1, .app 9)]) }, { tk := [19] }] ⟨[tP 4 4, tB 5 false], [(4, .cells (GDb.q ubz) [(0, .app 35), (1, .app 9)])], []⟩ (.cons (cspec_l08Copy h180) .nil) ?_
    obtain rfl := Option.some.inj h; exact Wc.ret dn
  · refine Wc.cF h179 ?_
    refine Wc.fx [] ⟨[tP 4 4, tP 6 6], [(4, .cells GDb.z [(0, .app 35), (1, .app 9)]), (6, .cells [.sl (List.map GClause.c (u15.gClauses ++ [u14])), .sl (List.map cS u15.gOpen)] [(0, .app 35), (1, .app 9)])], []⟩ ?_
    refine Wc.skip ?_
    apply Wc.seq
    refine Wc.r1 [{ md := 1 }, { tk := [20] }] ⟨[tP 4 4, tB 5 true], [(4, .cells [.sl (List.map GClause.c (u15.gClauses ++ [u14])), .sl (List.map cS u15.gOpen)] [(0, .app 35), (1, .app 9)])], []⟩ ?_
    obtain rfl := Option.some.inj h; exact Wc.ret dn

def pspec_l34Clauses_L1 (k : Nat) (u0t : List GClause) : Nat → (List GClause) → Int → Option (Out (List GClause) (List GClause))
  | 0, _, _ => none
  | m + 1, u2h, u3o =>
    if (decide (u3o < (u0t.length : Int))) = true then
      (at' u0t u3o).bind fun u8z =>
      (pspec_l34Clause k u8z).bind fun u37 =>
      if u2h.length + [u37].length ≤ 1073741824 then
        pspec_l34Clauses_L1 k u0t m (u2h ++ [u37]) (wr.i64 (u3o + 1))
      else none
    else
      some (.done u2h)
def pspec_l34Clauses (k : Nat) (u0t : List GClause) : Option (List GClause) :=
  (pspec_l34Clauses_L1 k u0t k [] 0).bind fun out1 => match out1 with
  | .ret r => some r
  | .done u6s =>
    some u6s
theorem cspec_l34Clauses {k : Nat} {u0t : List GClause} {r : (List GClause)} (h : pspec_l34Clauses k u0t = some r) : FnO Tryz.prog 59 [.v (.sl (List.map GClause.c u0t)) []] (.v (.sl (List.map GClause.c r)) [(0, .app 35)]) [] := by
  refine FnO.o2 Tryz.func59 (rfl : Tryz.f59.body = some _) ?_
  intro w0 X0 Fin pv0 pb gt
  unfold pspec_l34Clauses at h
  apply Wc.seq
  refine Wc.r0 ⟨[tV 0 (.sl (List.map GClause.c u0t))], [], []⟩ ?_
  apply Wc.seq
  refine Wc.r2 [{ c := some (List.map GClause.c []) }, { tk := [5] }] ⟨[tV 0 (.sl (List.map GClause.c u0t)), (3, (.v (.sl (List.map GClause.c [])), [(0, .app 35)]))], [], []⟩ (.cons (cl_nil GClause.c) .nil) ?_
  apply Wc.seq
  apply Wc.seq
  refine Wc.r0 ⟨[tV 0 (.sl (List.map GClause.c u0t)), (3, (.v (.sl (List.map GClause.c [])), [(0, .app 35)])), tI 4 0], [], []⟩ ?_
  obtain ⟨out1, h186, h⟩ := obind h
  refine Wc.lastJ (fun st => ∃ (u6s : List GClause), out1 = .done u6s ∧ st = ⟨[(3, (.v (.sl (List.map GClause.c u6s)), [(0, .app 35)]))], [], []⟩) ?_ ?_
  · refine Wc.block ?_
    refine Wc.loop (fun m st => ∃ (u2h : List GClause) (u3o : Int), st = ⟨[tV 0 (.sl (List.map GClause.c u0t)), (3, (.v (.sl (List.map GClause.c u2h)), [(0, .app 35)])), tI 4 u3o], [], []⟩ ∧ pspec_l34Clauses_L1 k u0t m u2h u3o = some out1) ?_ k ⟨_, _, rfl, h186⟩
    rintro m st ⟨u2h, u3o, rfl, h186⟩
    cases m with
    | zero => exact (onone h186).elim
    | succ m =>
      apply Wc.seq
      apply Wc.seq
      refine Wc.r2 [{}, {}, { v := some (aI (u0t.length : Int)) }] ⟨[tV 0 (.sl (List.map GClause.c u0t)), (3, (.v (.sl (List.map GClause.c u2h)), [(0, .app 35)])), tI 4 u3o, tB 9 (decide (u3o < (u0t.length : Int)))], [], []⟩ (.cons (len_obl GClause.c u0t) .nil) ?_
      rcases oif h186 with ⟨h187, h186⟩ | ⟨h187, h186⟩
      · refine Wc.cT h187 ?_
        refine Wc.fx [] ⟨[tV 0 (.sl (List.map GClause.c u0t)), (3, (.v (.sl (List.map GClause.c u2h)), [(0, .app 35)])), tI 4 u3o], [], []⟩ ?_
        refine Wc.skip ?_
        apply Wc.seq
        refine Wc.block ?_
        obtain ⟨u8z, h188, h186⟩ := obind h186
        obtain ⟨u37, h189, h186⟩ := obind h186
        obtain ⟨h190, h186⟩ := oguard h186
        refine Wc.r2 [{ tk := [3] }, {}, {}, { v := some (.vptr (GClause.q u8z)) }, {}, { r := some (.v (.agg (GClause.q u37)) [(3, .app 31), (7, .app 31)]) }, { c := some (List.map GClause.c [u37]) }, { c := some (List.map GClause.c (u2h ++ [u37])), tk := [12] }, { tk := [19] }] ⟨[tV 0 (.sl (List.map GClause.c u0t)), (3, (.v (.sl (List.map GClause.c (u2h ++ [u37]))), [(0, .app 35)])), tI 4 u3o], [], []⟩ (.cons (at_obl (c := GClause.c) (GClause.c_eq u8z) GClause.c_len h188) (.cons (len_ok 9 (GClause.q u8z)) (.cons (cspec_l34Clause h189) (.cons (cl_cons (c := GClause.c) (x := u37) (GClause.c_eq u37) (cl_nil GClause.c)) (.cons (app_re2 GClause.c u2h [u37]) (.cons (app_leaf (c := GClause.c) (ys := [u37]) GClause.c_leaf) (.cons (app_obl2 (c := GClause.c) (xs := u2h) (ys := [u37]) GClause.c_len h190) .nil))))))) ?_
        refine Wc.r0 ⟨[tV 0 (.sl (List.map GClause.c u0t)), (3, (.v (.sl (List.map GClause.c (u2h ++ [u37]))), [(0, .app 35)])), tI 4 (wr.i64 (u3o + 1))], [], []⟩ ?_
        exact ⟨_, Nat.lt_succ_self _, _, _, rfl, h186⟩
      · refine Wc.cF h187 ?_
        refine Wc.fx [] ⟨[(3, (.v (.sl (List.map GClause.c u2h)), [(0, .app 35)]))], [], []⟩ ?_
        refine Wc.exit ?_
        obtain rfl := Option.some.inj h186
        exact ⟨_, rfl, rfl⟩
  · rintro st ⟨u6s, rfl, rfl⟩
    apply Wc.seq
    refine Wc.r1 [{ tk := [3] }, { tk := [20] }] ⟨[(2, (.v (.sl (List.map GClause.c u6s)), [(0, .app 35)]))], [], []⟩ ?_
    obtain rfl := Option.some.inj h; exact Wc.ret dn

def pspec_l34Strings (k : Nat) (u41 : List ByteArray) : Option (List ByteArray) :=
  if ([] : List ByteArray).length + u41.length ≤ 1073741824 then
    some u41
  else none
theorem cspec_l34Strings {k : Nat} {u41 : List ByteArray} {r : (List ByteArray)} (h : pspec_l34Strings k u41 = some r) : FnO Tryz.prog 80 [.v (.sl (List.map cS u41)) []] (.v (.sl (List.map cS r)) [(0, .app 9)]) [] := by
  refine FnO.o2 Tryz.func80 (rfl : Tryz.f80.body = some _) ?_
  intro w0 X0 Fin pv0 pb gt
  unfold pspec_l34Strings at h
  apply Wc.seq
  refine Wc.r0 ⟨[tV 0 (.sl (List.map cS u41))], [], []⟩ ?_
  apply Wc.seq
  obtain ⟨h192, h⟩ := oguard h
  refine Wc.r2 [{ c := some (List.map cS []) }, {}, { c := some (List.map cS u41), tk := [3] }, { tk := [5] }] ⟨[(2, (.v (.sl (List.map cS u41)), [(0, .app 9)]))], [], []⟩ (.cons (cl_nil cS) (.cons (app_re0 cS u41) (.cons (app_leaf (c := cS) (ys := u41) cS_leaf) (.cons (app_obl2 (c := cS) (xs := []) (ys := u41) cS_len h192) .nil)))) ?_
  obtain rfl := Option.some.inj h; exact Wc.ret dn

def pspec_l34Db (k : Nat) (u5t : GDb) : Option GDb :=
  (pspec_l34Clauses k u5t.gClauses).bind fun u6t =>
  (pspec_l34Strings k u5t.gOpen).bind fun u90 =>
  some (GDb.mk u6t u90)
theorem cspec_l34Db {k : Nat} {u5t : GDb} {r : GDb} (h : pspec_l34Db k u5t = some r) : FnO Tryz.prog 52 [.v (.agg (GDb.q u5t)) []] (.v (.agg (GDb.q r)) [(0, .app 35), (1, .app 9)]) [] := by
  refine FnO.o2 Tryz.func52 (rfl : Tryz.f52.body = some _) ?_
  intro w0 X0 Fin pv0 pb gt
  unfold pspec_l34Db at h
  apply Wc.seq
  refine Wc.r0 ⟨[tP 1 1, tP 2 2], [bC 1 (GDb.q u5t), (2, .cells GDb.z [(0, .app 35), (1, .app 9)])], []⟩ ?_
  apply Wc.seq
  obtain ⟨u6t, h195, h⟩ := obind h
  refine Wc.r2 [{}, {}, { r := some (.v (.sl (List.map GClause.c u6t)) [(0, .app 35)]) }, {}, { tk := [5] }] ⟨[tP 1 1, tP 2 2], [(1, .cells [.sl (List.map GClause.c u6t), .sl (List.map cS u5t.gOpen)] [(0, .app 35)]), (2, .cells GDb.z [(0, .app 35), (1, .app 9)])], []⟩ (.cons (cspec_l34Clauses h195) .nil) ?_
  apply Wc.seq
  obtain ⟨u90, h196, h⟩ := obind h
  refine Wc.r2 [{}, {}, { r := some (.v (.sl (List.map cS u90)) [(0, .app 9)]) }, {}, { tk := [9] }] ⟨[tP 1 1, tP 2 2], [(1, .cells [.sl (List.map GClause.c u6t), .sl (List.map cS u90)] [(0, .app 35), (1, .app 9)]), (2, .cells GDb.z [(0, .app 35), (1, .app 9)])], []⟩ (.cons (cspec_l34Strings h196) .nil) ?_
  apply Wc.seq
  refine Wc.r1 [{ md := 1 }, { tk := [11] }] ⟨[tP 2 2], [(2, .cells [.sl (List.map GClause.c u6t), .sl (List.map cS u90)] [(0, .app 35), (1, .app 9)])], []⟩ ?_
  obtain rfl := Option.some.inj h; exact Wc.ret dn

def pspec_Added (k : Nat) (u91 : GDb) (u92 : GClause) : Option (GDb × Bool) :=
  (pspec_l08AddedRaw k u91 u92).bind fun u5b =>
  (pspec_l34Db k u5b.1).bind fun uc0 =>
  some (uc0, u5b.2)
theorem cspec_Added {k : Nat} {u91 : GDb} {u92 : GClause} {r : GDb × Bool} (h : pspec_Added k u91 u92 = some r) : FnO Tryz.prog 11 [.v (.agg (GDb.q u91)) [], .v (.agg (GClause.q u92)) []] (.v (.tup [.agg (GDb.q r.1), .bool r.2]) [(0, .app 35), (1, .app 9)]) [] := by
  refine FnO.o2 Tryz.func11 (rfl : Tryz.f11.body = some _) ?_
  intro w0 X0 Fin pv0 pb gt
  unfold pspec_Added at h
  apply Wc.seq
  refine Wc.r0 ⟨[tP 2 2, tP 3 3, tP 4 4], [bC 2 (GDb.q u91), bC 3 (GClause.q u92), (4, .cells GDb.z [(0, .app 35), (1, .app 9)])], []⟩ ?_
  apply Wc.seq
  obtain ⟨u5b, h199, h⟩ := obind h
  refine Wc.r2 [{}, {}, { r := some (.v (.tup [.agg (GDb.q u5b.1), .bool u5b.2]) [(0, .app 35), (1, .app 9)]) }, { tk := [11] }, { tk := [8] }, {}, {}, { tk := [12] }] ⟨[tP 4 4, tP 6 6, tB 7 u5b.2], [(4, .cells GDb.z [(0, .app 35), (1, .app 9)]), (6, .cells (GDb.q u5b.1) [(0, .app 35), (1, .app 9)])], []⟩ (.cons (cspec_l08AddedRaw h199) .nil) ?_
  apply Wc.seq
  obtain ⟨uc0, h200, h⟩ := obind h
  refine Wc.r2 [{}, { r := some (.v (.agg (GDb.q uc0)) [(0, .app 35), (1, .app 9)]) }, {}, { tk := [15] }] ⟨[tP 4 4, tB 5 u5b.2], [(4, .cells (GDb.q uc0) [(0, .app 35), (1, .app 9)])], []⟩ (.cons (cspec_l34Db h200) .nil) ?_
  obtain rfl := Option.some.inj h; exact Wc.ret dn

def pspec_l08OpenedRaw_L1 (k : Nat) (u0c : GDb) (vn : ByteArray) (v9 : GDb) : Nat → Int → Option (Out GDb Unit)
  | 0, _ => none
  | m + 1, u38 =>
    if (decide (u38 < (u0c.gOpen.length : Int))) = true then
      (at' u0c.gOpen u38).bind fun u93 =>
      if (sEq u93 vn) = true then
        some (.ret v9)
      else
        pspec_l08OpenedRaw_L1 k u0c vn v9 m (wr.i64 (u38 + 1))
    else
      some (.done ())
def pspec_l08OpenedRaw (k : Nat) (u0c : GDb) (vn : ByteArray) : Option GDb :=
  (pspec_l08Copy k u0c).bind fun v9 =>
  (pspec_l08OpenedRaw_L1 k u0c vn v9 k 0).bind fun out1 => match out1 with
  | .ret r => some r
  | .done () =>
    if (decide ((v9.gOpen.length : Int) < 40)) = true then
      if v9.gOpen.length + [vn].length ≤ 1073741824 then
        some (GDb.mk v9.gClauses (v9.gOpen ++ [vn]))
      else none
    else
      some v9
theorem cspec_l08OpenedRaw {k : Nat} {u0c : GDb} {vn : ByteArray} {r : GDb} (h : pspec_l08OpenedRaw k u0c vn = some r) : FnO Tryz.prog 60 [.v (.agg (GDb.q u0c)) [], .v (.str vn) []] (.v (.agg (GDb.q r)) [(0, .app 35), (1, .app 9)]) [] := by
  refine FnO.o2 Tryz.func60 (rfl : Tryz.f60.body = some _) ?_
  intro w0 X0 Fin pv0 pb gt
  unfold pspec_l08OpenedRaw at h
  apply Wc.seq
  refine Wc.r0 ⟨[tS 1 vn, tP 2 2, tP 4 4], [bC 2 (GDb.q u0c), (4, .cells GDb.z [(0, .app 35), (1, .app 9)])], []⟩ ?_
  apply Wc.seq
  obtain ⟨v9, h208, h⟩ := obind h
  refine Wc.r2 [{}, { r := some (.v (.agg (GDb.q v9)) [(0, .app 35), (1, .app 9)]) }, {}, { tk := [8] }] ⟨[tS 1 vn, tP 2 2, tP 4 4, tP 5 5], [bC 2 (GDb.q u0c), (4, .cells GDb.z [(0, .app 35), (1, .app 9)]), (5, .cells (GDb.q v9) [(0, .app 35), (1, .app 9)])], []⟩ (.cons (cspec_l08Copy h208) .nil) ?_
  apply Wc.seq
  apply Wc.seq
  refine Wc.r0 ⟨[tS 1 vn, tP 2 2, tP 4 4, tP 5 5, tI 6 0], [bC 2 (GDb.q u0c), (4, .cells GDb.z [(0, .app 35), (1, .app 9)]), (5, .cells (GDb.q v9) [(0, .app 35), (1, .app 9)])], []⟩ ?_
  obtain ⟨out1, h209, h⟩ := obind h
  refine Wc.lastJ (fun st => out1 = .done () ∧ st = ⟨[tS 1 vn, tP 4 4, tP 5 5], [(4, .cells GDb.z [(0, .app 35), (1, .app 9)]), (5, .cells (GDb.q v9) [(0, .app 35), (1, .app 9)])], []⟩) ?_ ?_
  · refine Wc.block ?_
    refine Wc.loop (fun m st => ∃ (u38 : Int), st = ⟨[tS 1 vn, tP 2 2, tP 4 4, tP 5 5, tI 6 u38], [bC 2 (GDb.q u0c), (4, .cells GDb.z [(0, .app 35), (1, .app 9)]), (5, .cells (GDb.q v9) [(0, .app 35), (1, .app 9)])], []⟩ ∧ pspec_l08OpenedRaw_L1 k u0c vn v9 m u38 = some out1) ?_ k ⟨_, rfl, h209⟩
    rintro m st ⟨u38, rfl, h209⟩
    cases m with
    | zero => exact (onone h209).elim
    | succ m =>
      apply Wc.seq
      apply Wc.seq
      refine Wc.r2 [{}, {}, {}, { v := some (aI (u0c.gOpen.length : Int)) }] ⟨[tS 1 vn, tP 2 2, tP 4 4, tP 5 5, tI 6 u38, tB 13 (decide (u38 < (u0c.gOpen.length : Int)))], [bC 2 (GDb.q u0c), (4, .cells GDb.z [(0, .app 35), (1, .app 9)]), (5, .cells (GDb.q v9) [(0, .app 35), (1, .app 9)])], []⟩ (.cons (len_obl cS u0c.gOpen) .nil) ?_
      rcases oif h209 with ⟨h210, h209⟩ | ⟨h210, h209⟩
      · refine Wc.cT h210 ?_
        refine Wc.fx [] ⟨[tS 1 vn, tP 2 2, tP 4 4, tP 5 5, tI 6 u38], [bC 2 (GDb.q u0c), (4, .cells GDb.z [(0, .app 35), (1, .app 9)]), (5, .cells (GDb.q v9) [(0, .app 35), (1, .app 9)])], []⟩ ?_
        refine Wc.skip ?_
        apply Wc.seq
        refine Wc.block ?_
        apply Wc.seq
        obtain ⟨u93, h211, h209⟩ := obind h209
        refine Wc.r2 [{}, {}, {}, { v := some (.vptr [.str u93]) }] ⟨[tS 1 vn, tP 2 2, tP 4 4, tP 5 5, tI 6 u38, tB 22 (sEq u93 vn)], [bC 2 (GDb.q u0c), (4, .cells GDb.z [(0, .app 35), (1, .app 9)]), (5, .cells (GDb.q v9) [(0, .app 35), (1, .app 9)])], []⟩ (.cons (at_obl (c := cS) rfl cS_len h211) (.cons (len_ok 1 [.str u93]) .nil)) ?_
        rcases oif h209 with ⟨h212, h209⟩ | ⟨h212, h209⟩
        · refine Wc.cT h212 ?_
          apply Wc.seq
          refine Wc.r1 [{ md := 1 }, { tk := [23] }] ⟨[tP 4 4], [(4, .cells (GDb.q v9) [(0, .app 35), (1, .app 9)])], []⟩ ?_
          refine Wc.ret ?_
          obtain rfl := Option.some.inj h209
          obtain rfl := Option.some.inj h
          exact ⟨.inl rfl, by kernel_rfl, by kernel_rfl⟩
        · refine Wc.cF h212 ?_
          refine Wc.fx [] ⟨[tS 1 vn, tP 2 2, tP 4 4, tP 5 5, tI 6 u38], [bC 2 (GDb.q u0c), (4, .cells GDb.z [(0, .app 35), (1, .app 9)]), (5, .cells (GDb.q v9) [(0, .app 35), (1, .app 9)])], []⟩ ?_
          refine Wc.skip ?_
          refine Wc.r0 ⟨[tS 1 vn, tP 2 2, tP 4 4, tP 5 5, tI 6 (wr.i64 (u38 + 1))], [bC 2 (GDb.q u0c), (4, .cells GDb.z [(0, .app 35), (1, .app 9)]), (5, .cells (GDb.q v9) [(0, .app 35), (1, .app 9)])], []⟩ ?_
          exact ⟨_, Nat.lt_succ_self _, _, rfl, h209⟩
      · refine Wc.cF h210 ?_
        refine Wc.fx [] ⟨[tS 1 vn, tP 4 4, tP 5 5], [(4, .cells GDb.z [(0, .app 35), (1, .app 9)]), (5, .cells (GDb.q v9) [(0, .app 35), (1, .app 9)])], []⟩ ?_
        refine Wc.exit ?_
        obtain rfl := Option.some.inj h209
        exact ⟨rfl, rfl⟩
  · rintro st ⟨rfl, rfl⟩
    apply Wc.seq
    apply Wc.seq
    refine Wc.r2 [{}, {}, { v := some (aI (v9.gOpen.length : Int)) }] ⟨[tS 1 vn, tP 4 4, tP 5 5, tB 27 (decide ((v9.gOpen.length : Int) < 40))], [(4, .cells GDb.z [(0, .app 35), (1, .app 9)]), (5, .cells (GDb.q v9) [(0, .app 35), (1, .app 9)])], []⟩ (.cons (len_obl cS v9.gOpen) .nil) ?_
    rcases oif h with ⟨h213, h⟩ | ⟨h213, h⟩
    · refine Wc.cT h213 ?_
      obtain ⟨h214, h⟩ := oguard h
      refine Wc.r2 [{}, { md := 1 }, {}, { c := some (List.map cS [vn]) }, { c := some (List.map cS (v9.gOpen ++ [vn])), tk := [29] }, {}, { tk := [32] }] ⟨[tP 4 4, tP 5 5], [(4, .cells GDb.z [(0, .app 35), (1, .app 9)]), (5, .cells [.sl (List.map GClause.c v9.gClauses), .sl (List.map cS (v9.gOpen ++ [vn]))] [(0, .app 35), (1, .app 9)])], []⟩ (.cons (cl_cons (c := cS) (x := vn) rfl (cl_nil cS)) (.cons (app_re2 cS v9.gOpen [vn]) (.cons (app_leaf (c := cS) (ys := [vn]) cS_leaf) (.cons (app_obl2 (c := cS) (xs := v9.gOpen) (ys := [vn]) cS_len h214) .nil)))) ?_
      apply Wc.seq
      refine Wc.r1 [{ md := 1 }, { tk := [34] }] ⟨[tP 4 4], [(4, .cells [.sl (List.map GClause.c v9.gClauses), .sl (List.map cS (v9.gOpen ++ [vn]))] [(0, .app 35), (1, .app 9)])], []⟩ ?_
      obtain rfl := Option.some.inj h; exact Wc.ret dn
    · refine Wc.cF h213 ?_
      refine Wc.fx [] ⟨[tP 4 4, tP 5 5], [(4, .cells GDb.z [(0, .app 35), (1, .app 9)]), (5, .cells (GDb.q v9) [(0, .app 35), (1, .app 9)])], []⟩ ?_
      refine Wc.skip ?_
      apply Wc.seq
      refine Wc.r1 [{ md := 1 }, { tk := [34] }] ⟨[tP 4 4], [(4, .cells (GDb.q v9) [(0, .app 35), (1, .app 9)])], []⟩ ?_
      obtain rfl := Option.some.inj h; exact Wc.ret dn

def pspec_Opened (k : Nat) (u94 : GDb) (u95 : ByteArray) : Option GDb :=
  (pspec_l08OpenedRaw k u94 u95).bind fun uc1 =>
  (pspec_l34Db k uc1).bind fun uc2 =>
  some uc2
theorem cspec_Opened {k : Nat} {u94 : GDb} {u95 : ByteArray} {r : GDb} (h : pspec_Opened k u94 u95 = some r) : FnO Tryz.prog 21 [.v (.agg (GDb.q u94)) [], .v (.str u95) []] (.v (.agg (GDb.q r)) [(0, .app 35), (1, .app 9)]) [] := by
  refine FnO.o2 Tryz.func21 (rfl : Tryz.f21.body = some _) ?_
  intro w0 X0 Fin pv0 pb gt
  unfold pspec_Opened at h
  apply Wc.seq
  refine Wc.r0 ⟨[tS 1 u95, tP 2 2, tP 4 4], [bC 2 (GDb.q u94), (4, .cells GDb.z [(0, .app 35), (1, .app 9)])], []⟩ ?_
  apply Wc.seq
  obtain ⟨uc1, h217, h⟩ := obind h
  refine Wc.r2 [{}, {}, { r := some (.v (.agg (GDb.q uc1)) [(0, .app 35), (1, .app 9)]) }, {}, { tk := [8] }] ⟨[tP 4 4, tP 5 5], [(4, .cells GDb.z [(0, .app 35), (1, .app 9)]), (5, .cells (GDb.q uc1) [(0, .app 35), (1, .app 9)])], []⟩ (.cons (cspec_l08OpenedRaw h217) .nil) ?_
  apply Wc.seq
  obtain ⟨uc2, h218, h⟩ := obind h
  refine Wc.r2 [{}, { r := some (.v (.agg (GDb.q uc2)) [(0, .app 35), (1, .app 9)]) }, { tk := [10] }] ⟨[tP 4 4], [(4, .cells (GDb.q uc2) [(0, .app 35), (1, .app 9)])], []⟩ (.cons (cspec_l34Db h218) .nil) ?_
  obtain rfl := Option.some.inj h; exact Wc.ret dn

def pspec_l01Byte (k : Nat) (uh : GL01Cur) : Option (GL01Cur × Int) :=
  if (decide (uh.gI < (uh.gB.length : Int))) = true then
    (at' uh.gB uh.gI).bind fun u5u =>
    some (GL01Cur.mk uh.gB (wr.i64 (uh.gI + 1)) (wr.i64 ((wr.i64 (uh.gH * 6364136223846793005)) + 1442695040888963407)), band .i64 (wr.i64 ((band .i64 (bxor .i64 (bshr .i64 (wr.i64 ((wr.i64 (uh.gH * 6364136223846793005)) + 1442695040888963407)) 33) (bshr .i64 (wr.i64 ((wr.i64 (uh.gH * 6364136223846793005)) + 1442695040888963407)) 45)) 255) + (wr.i64 u5u))) 255)
  else
    some (GL01Cur.mk uh.gB uh.gI (wr.i64 ((wr.i64 (uh.gH * 6364136223846793005)) + 1442695040888963407)), band .i64 (bxor .i64 (bshr .i64 (wr.i64 ((wr.i64 (uh.gH * 6364136223846793005)) + 1442695040888963407)) 33) (bshr .i64 (wr.i64 ((wr.i64 (uh.gH * 6364136223846793005)) + 1442695040888963407)) 45)) 255)
theorem cspec_l01Byte {k : Nat} {uh : GL01Cur} {r : GL01Cur × Int} (h : pspec_l01Byte k uh = some r) : FnO Tryz.prog 70 [.p (GL01Cur.q uh) []] (.v (aI r.2) []) [(0, .p (GL01Cur.q r.1) [])] := by
  refine FnO.o2 Tryz.func70 (rfl : Tryz.f70.body = some _) ?_
  intro w0 X0 Fin pv0 pb gt
  unfold pspec_l01Byte at h
  apply Wc.seq
  refine Wc.r0 ⟨[tP 0 1000000], [bC 1000000 (GL01Cur.q uh)], []⟩ ?_
  apply Wc.seq
  refine Wc.r0 ⟨[tP 0 1000000], [bC 1000000 [.sl (List.map cI.u8 uh.gB), aI uh.gI, aI (wr.i64 ((wr.i64 (uh.gH * 6364136223846793005)) + 1442695040888963407))]], []⟩ ?_
  apply Wc.seq
  refine Wc.draw hmix [] [] [0, 3] [1000000] [] ⟨[tP 0 1000000, tI 3 (band .i64 (bxor .i64 (bshr .i64 (wr.i64 ((wr.i64 (uh.gH * 6364136223846793005)) + 1442695040888963407)) 33) (bshr .i64 (wr.i64 ((wr.i64 (uh.gH * 6364136223846793005)) + 1442695040888963407)) 45)) 255)], [bC 1000000 [.sl (List.map cI.u8 uh.gB), aI uh.gI, aI (wr.i64 ((wr.i64 (uh.gH * 6364136223846793005)) + 1442695040888963407))]], []⟩ _ (by kernel_rfl) (fun X => by kernel_rfl) (.cons (show (0 : Int) ≤ 33 by decide) (.cons (show (0 : Int) ≤ 45 by decide) .nil)) ?_
  apply Wc.seq
  apply Wc.seq
  refine Wc.draw hmix [{}, {}, {}, {}, {}, {}, {}, {}, { v := some (aI (uh.gB.length : Int)) }] [] [0, 3, 34] [1000000] [] ⟨[tP 0 1000000, tI 3 (band .i64 (bxor .i64 (bshr .i64 (wr.i64 ((wr.i64 (uh.gH * 6364136223846793005)) + 1442695040888963407)) 33) (bshr .i64 (wr.i64 ((wr.i64 (uh.gH * 6364136223846793005)) + 1442695040888963407)) 45)) 255), tB 34 (decide (uh.gI < (uh.gB.length : Int)))], [bC 1000000 [.sl (List.map cI.u8 uh.gB), aI uh.gI, aI (wr.i64 ((wr.i64 (uh.gH * 6364136223846793005)) + 1442695040888963407))]], []⟩ _ (by kernel_rfl) (fun X => by kernel_rfl) (.cons (len_obl cI.u8 uh.gB) .nil) ?_
  rcases oif h with ⟨h219, h⟩ | ⟨h219, h⟩
  · refine Wc.cT h219 ?_
    apply Wc.seq
    obtain ⟨u5u, h220, h⟩ := obind h
    refine Wc.draw hmix [{}, {}, {}, {}, {}, {}, {}, {}, {}, { v := some (.vptr [.int .u8 u5u]) }] [] [0, 3] [1000000] [] ⟨[tP 0 1000000, tI 3 (band .i64 (wr.i64 ((band .i64 (bxor .i64 (bshr .i64 (wr.i64 ((wr.i64 (uh.gH * 6364136223846793005)) + 1442695040888963407)) 33) (bshr .i64 (wr.i64 ((wr.i64 (uh.gH * 6364136223846793005)) + 1442695040888963407)) 45)) 255) + (wr.i64 u5u))) 255)], [bC 1000000 [.sl (List.map cI.u8 uh.gB), aI uh.gI, aI (wr.i64 ((wr.i64 (uh.gH * 6364136223846793005)) + 1442695040888963407))]], []⟩ _ (by kernel_rfl) (fun X => by kernel_rfl) (.cons (at_obl (c := cI.u8) rfl cI.u8_len h220) (.cons (len_ok 1 [.int .u8 u5u]) .nil)) ?_
    refine Wc.r0 ⟨[tI 3 (band .i64 (wr.i64 ((band .i64 (bxor .i64 (bshr .i64 (wr.i64 ((wr.i64 (uh.gH * 6364136223846793005)) + 1442695040888963407)) 33) (bshr .i64 (wr.i64 ((wr.i64 (uh.gH * 6364136223846793005)) + 1442695040888963407)) 45)) 255) + (wr.i64 u5u))) 255)], [bC 1000000 [.sl (List.map cI.u8 uh.gB), aI (wr.i64 (uh.gI + 1)), aI (wr.i64 ((wr.i64 (uh.gH * 6364136223846793005)) + 1442695040888963407))]], []⟩ ?_
    apply Wc.seq
    refine Wc.r0 ⟨[tI 2 (band .i64 (wr.i64 ((band .i64 (bxor .i64 (bshr .i64 (wr.i64 ((wr.i64 (uh.gH * 6364136223846793005)) + 1442695040888963407)) 33) (bshr .i64 (wr.i64 ((wr.i64 (uh.gH * 6364136223846793005)) + 1442695040888963407)) 45)) 255) + (wr.i64 u5u))) 255)], [bC 1000000 [.sl (List.map cI.u8 uh.gB), aI (wr.i64 (uh.gI + 1)), aI (wr.i64 ((wr.i64 (uh.gH * 6364136223846793005)) + 1442695040888963407))]], []⟩ ?_
    obtain rfl := Option.some.inj h; exact Wc.ret dn
  · refine Wc.cF h219 ?_
    refine Wc.fx [] ⟨[tI 3 (band .i64 (bxor .i64 (bshr .i64 (wr.i64 ((wr.i64 (uh.gH * 6364136223846793005)) + 1442695040888963407)) 33) (bshr .i64 (wr.i64 ((wr.i64 (uh.gH * 6364136223846793005)) + 1442695040888963407)) 45)) 255)], [bC 1000000 [.sl (List.map cI.u8 uh.gB), aI uh.gI, aI (wr.i64 ((wr.i64 (uh.gH * 6364136223846793005)) + 1442695040888963407))]], []⟩ ?_
    refine Wc.skip ?_
    apply Wc.seq
    refine Wc.r0 ⟨[tI 2 (band .i64 (bxor .i64 (bshr .i64 (wr.i64 ((wr.i64 (uh.gH * 6364136223846793005)) + 1442695040888963407)) 33) (bshr .i64 (wr.i64 ((wr.i64 (uh.gH * 6364136223846793005)) + 1442695040888963407)) 45)) 255)], [bC 1000000 [.sl (List.map cI.u8 uh.gB), aI uh.gI, aI (wr.i64 ((wr.i64 (uh.gH * 6364136223846793005)) + 1442695040888963407))]], []⟩ ?_
    obtain rfl := Option.some.inj h; exact Wc.ret dn

def pspec_l01Below (k : Nat) (u3p : GL01Cur) (u0d : Int) : Option (GL01Cur × Int) :=
  if (decide (u0d ≤ 0)) = true then
    some (u3p, 0)
  else
    if (decide (u0d ≤ 256)) = true then
      (pspec_l01Byte k u3p).bind fun u5v =>
      if (u0d : Int) ≠ 0 then
        some (u5v.1, Int.tmod u5v.2 u0d)
      else none
    else
      (pspec_l01Byte k u3p).bind fun u42 =>
      (pspec_l01Byte k u42.1).bind fun u4i =>
      (pspec_l01Byte k u4i.1).bind fun u4t =>
      (pspec_l01Byte k u4t.1).bind fun u4u =>
      if (u0d : Int) ≠ 0 then
        some (u4u.1, Int.tmod (wr.i64 ((wr.i64 ((wr.i64 ((wr.i64 (u42.2 * 16777216)) + (wr.i64 (u4i.2 * 65536)))) + (wr.i64 (u4t.2 * 256)))) + u4u.2)) u0d)
      else none
theorem cspec_l01Below {k : Nat} {u3p : GL01Cur} {u0d : Int} {r : GL01Cur × Int} (h : pspec_l01Below k u3p u0d = some r) : FnO Tryz.prog 33 [.p (GL01Cur.q u3p) [], .v (aI u0d) []] (.v (aI r.2) []) [(0, .p (GL01Cur.q r.1) [])] := by
  refine FnO.o2 Tryz.func33 (rfl : Tryz.f33.body = some _) ?_
  intro w0 X0 Fin pv0 pb gt
  unfold pspec_l01Below at h
  apply Wc.seq
  refine Wc.r0 ⟨[tP 0 1000000, tI 1 u0d], [bC 1000000 (GL01Cur.q u3p)], []⟩ ?_
  apply Wc.seq
  apply Wc.seq
  refine Wc.r0 ⟨[tP 0 1000000, tI 1 u0d, tB 10 (decide (u0d ≤ 0))], [bC 1000000 (GL01Cur.q u3p)], []⟩ ?_
  rcases oif h with ⟨h221, h⟩ | ⟨h221, h⟩
  · refine Wc.cT h221 ?_
    apply Wc.seq
    refine Wc.r0 ⟨[tI 4 0], [bC 1000000 (GL01Cur.q u3p)], []⟩ ?_
    obtain rfl := Option.some.inj h; exact Wc.ret dn
  · refine Wc.cF h221 ?_
    refine Wc.fx [] ⟨[tP 0 1000000, tI 1 u0d], [bC 1000000 (GL01Cur.q u3p)], []⟩ ?_
    refine Wc.skip ?_
    apply Wc.seq
    apply Wc.seq
    refine Wc.r0 ⟨[tP 0 1000000, tI 1 u0d, tB 12 (decide (u0d ≤ 256))], [bC 1000000 (GL01Cur.q u3p)], []⟩ ?_
    rcases oif h with ⟨h222, h⟩ | ⟨h222, h⟩
    · refine Wc.cT h222 ?_
      apply Wc.seq
      obtain ⟨u5v, h223, h⟩ := obind h
      obtain ⟨h224, h⟩ := oguard h
      refine Wc.r2 [{}, { r := some (.v (aI u5v.2) []), outs := [(0, .p (GL01Cur.q u5v.1) [])] }] ⟨[tI 4 (Int.tmod u5v.2 u0d)], [bC 1000000 (GL01Cur.q u5v.1)], []⟩ (.cons (cspec_l01Byte h223) (.cons h224 .nil)) ?_
      obtain rfl := Option.some.inj h; exact Wc.ret dn
    · refine Wc.cF h222 ?_
      refine Wc.fx [] ⟨[tP 0 1000000, tI 1 u0d], [bC 1000000 (GL01Cur.q u3p)], []⟩ ?_
      refine Wc.skip ?_
      apply Wc.seq
      obtain ⟨u42, h225, h⟩ := obind h
      refine Wc.r2 [{}, { r := some (.v (aI u42.2) []), outs := [(0, .p (GL01Cur.q u42.1) [])] }] ⟨[tP 0 1000000, tI 1 u0d, tI 5 u42.2], [bC 1000000 (GL01Cur.q u42.1)], []⟩ (.cons (cspec_l01Byte h225) .nil) ?_
      apply Wc.seq
      obtain ⟨u4i, h226, h⟩ := obind h
      refine Wc.r2 [{}, { r := some (.v (aI u4i.2) []), outs := [(0, .p (GL01Cur.q u4i.1) [])] }] ⟨[tP 0 1000000, tI 1 u0d, tI 5 u42.2, tI 6 u4i.2], [bC 1000000 (GL01Cur.q u4i.1)], []⟩ (.cons (cspec_l01Byte h226) .nil) ?_
      apply Wc.seq
      obtain ⟨u4t, h227, h⟩ := obind h
      refine Wc.r2 [{}, { r := some (.v (aI u4t.2) []), outs := [(0, .p (GL01Cur.q u4t.1) [])] }] ⟨[tP 0 1000000, tI 1 u0d, tI 5 u42.2, tI 6 u4i.2, tI 7 u4t.2], [bC 1000000 (GL01Cur.q u4t.1)], []⟩ (.cons (cspec_l01Byte h227) .nil) ?_
      apply Wc.seq
      obtain ⟨u4u, h228, h⟩ := obind h
      refine Wc.r2 [{}, { r := some (.v (aI u4u.2) []), outs := [(0, .p (GL01Cur.q u4u.1) [])] }] ⟨[tI 1 u0d, tI 5 u42.2, tI 6 u4i.2, tI 7 u4t.2, tI 8 u4u.2], [bC 1000000 (GL01Cur.q u4u.1)], []⟩ (.cons (cspec_l01Byte h228) .nil) ?_
      apply Wc.seq
      obtain ⟨h229, h⟩ := oguard h
      refine Wc.r2 [] ⟨[tI 4 (Int.tmod (wr.i64 ((wr.i64 ((wr.i64 ((wr.i64 (u42.2 * 16777216)) + (wr.i64 (u4i.2 * 65536)))) + (wr.i64 (u4t.2 * 256)))) + u4u.2)) u0d)], [bC 1000000 (GL01Cur.q u4u.1)], []⟩ (.cons h229 .nil) ?_
      obtain rfl := Option.some.inj h; exact Wc.ret dn

def pspec_l05Blank (k : Nat) (u5c : Int) : Option Bool :=
  if (u5c == 32) = true then
    some true
  else
    if (u5c == 9) = true then
      some true
    else
      some (u5c == 10)
theorem cspec_l05Blank {k : Nat} {u5c : Int} {r : Bool} (h : pspec_l05Blank k u5c = some r) : FnO Tryz.prog 90 [.v (.int .u8 u5c) []] (.v (.bool r) []) [] := by
  refine FnO.o2 Tryz.func90 (rfl : Tryz.f90.body = some _) ?_
  intro w0 X0 Fin pv0 pb gt
  unfold pspec_l05Blank at h
  apply Wc.seq
  refine Wc.r0 ⟨[tV 0 (.int .u8 u5c)], [], []⟩ ?_
  apply Wc.seq
  rcases oif h with ⟨h230, h⟩ | ⟨h230, h⟩
  · refine Wc.r2 [{}, {}, { re := some (.bool true) }] ⟨[tB 2 true], [], []⟩ (.cons (congrArg AV.bool h230) .nil) ?_
    obtain rfl := Option.some.inj h; exact Wc.ret dn
  · rcases oif h with ⟨h231, h⟩ | ⟨h231, h⟩
    · refine Wc.r2 [{}, {}, { re := some (.bool false) }, {}, {}, {}, { re := some (.bool true) }] ⟨[tB 2 true], [], []⟩ (.cons (congrArg AV.bool h230) (.cons (congrArg AV.bool h231) .nil)) ?_
      obtain rfl := Option.some.inj h; exact Wc.ret dn
    · refine Wc.r2 [{}, {}, { re := some (.bool false) }, {}, {}, {}, { re := some (.bool false) }] ⟨[tB 2 (u5c == 10)], [], []⟩ (.cons (congrArg AV.bool h230) (.cons (congrArg AV.bool h231) .nil)) ?_
      obtain rfl := Option.some.inj h; exact Wc.ret dn

def pspec_l05Small (k : Nat) (u5w : Int) : Option Bool :=
  if (decide (u5w ≥ 97)) = true then
    some (decide (u5w ≤ 122))
  else
    some false
theorem cspec_l05Small {k : Nat} {u5w : Int} {r : Bool} (h : pspec_l05Small k u5w = some r) : FnO Tryz.prog 103 [.v (.int .u8 u5w) []] (.v (.bool r) []) [] := by
  refine FnO.o2 Tryz.func103 (rfl : Tryz.f103.body = some _) ?_
  intro w0 X0 Fin pv0 pb gt
  unfold pspec_l05Small at h
  apply Wc.seq
  refine Wc.r0 ⟨[tV 0 (.int .u8 u5w)], [], []⟩ ?_
  apply Wc.seq
  rcases oif h with ⟨h232, h⟩ | ⟨h232, h⟩
  · refine Wc.r2 [{}, {}, { re := some (.bool true) }] ⟨[tB 2 (decide (u5w ≤ 122))], [], []⟩ (.cons (congrArg AV.bool h232) .nil) ?_
    obtain rfl := Option.some.inj h; exact Wc.ret dn
  · refine Wc.r2 [{}, {}, { re := some (.bool false) }] ⟨[tB 2 false], [], []⟩ (.cons (congrArg AV.bool h232) .nil) ?_
    obtain rfl := Option.some.inj h; exact Wc.ret dn

def pspec_l05Great (k : Nat) (u4j : Int) : Option Bool :=
  if (decide (u4j ≥ 65)) = true then
    if (decide (u4j ≤ 90)) = true then
      some true
    else
      some (u4j == 95)
  else
    some (u4j == 95)
theorem cspec_l05Great {k : Nat} {u4j : Int} {r : Bool} (h : pspec_l05Great k u4j = some r) : FnO Tryz.prog 104 [.v (.int .u8 u4j) []] (.v (.bool r) []) [] := by
  refine FnO.o2 Tryz.func104 (rfl : Tryz.f104.body = some _) ?_
  intro w0 X0 Fin pv0 pb gt
  unfold pspec_l05Great at h
  apply Wc.seq
  refine Wc.r0 ⟨[tV 0 (.int .u8 u4j)], [], []⟩ ?_
  apply Wc.seq
  rcases oif h with ⟨h233, h⟩ | ⟨h233, h⟩
  · rcases oif h with ⟨h234, h⟩ | ⟨h234, h⟩
    · refine Wc.r2 [{}, {}, { re := some (.bool true) }, {}, {}, {}, { re := some (.bool true) }] ⟨[tB 2 true], [], []⟩ (.cons (congrArg AV.bool h233) (.cons (congrArg AV.bool h234) .nil)) ?_
      obtain rfl := Option.some.inj h; exact Wc.ret dn
    · refine Wc.r2 [{}, {}, { re := some (.bool true) }, {}, {}, {}, { re := some (.bool false) }] ⟨[tB 2 (u4j == 95)], [], []⟩ (.cons (congrArg AV.bool h233) (.cons (congrArg AV.bool h234) .nil)) ?_
      obtain rfl := Option.some.inj h; exact Wc.ret dn
  · refine Wc.r2 [{}, {}, { re := some (.bool false) }] ⟨[tB 2 (u4j == 95)], [], []⟩ (.cons (congrArg AV.bool h233) .nil) ?_
    obtain rfl := Option.some.inj h; exact Wc.ret dn

def pspec_l05Figure (k : Nat) (u5x : Int) : Option Bool :=
  if (decide (u5x ≥ 48)) = true then
    some (decide (u5x ≤ 57))
  else
    some false
theorem cspec_l05Figure {k : Nat} {u5x : Int} {r : Bool} (h : pspec_l05Figure k u5x = some r) : FnO Tryz.prog 106 [.v (.int .u8 u5x) []] (.v (.bool r) []) [] := by
  refine FnO.o2 Tryz.func106 (rfl : Tryz.f106.body = some _) ?_
  intro w0 X0 Fin pv0 pb gt
  unfold pspec_l05Figure at h
  apply Wc.seq
  refine Wc.r0 ⟨[tV 0 (.int .u8 u5x)], [], []⟩ ?_
  apply Wc.seq
  rcases oif h with ⟨h235, h⟩ | ⟨h235, h⟩
  · refine Wc.r2 [{}, {}, { re := some (.bool true) }] ⟨[tB 2 (decide (u5x ≤ 57))], [], []⟩ (.cons (congrArg AV.bool h235) .nil) ?_
    obtain rfl := Option.some.inj h; exact Wc.ret dn
  · refine Wc.r2 [{}, {}, { re := some (.bool false) }] ⟨[tB 2 false], [], []⟩ (.cons (congrArg AV.bool h235) .nil) ?_
    obtain rfl := Option.some.inj h; exact Wc.ret dn

def pspec_l05Word (k : Nat) (u5y : Int) : Option Bool :=
  (pspec_l05Small k u5y).bind fun u96 =>
  if u96 = true then
    some true
  else
    (pspec_l05Great k u5y).bind fun uc3 =>
    if uc3 = true then
      some true
    else
      (pspec_l05Figure k u5y).bind fun uc4 =>
      some uc4
theorem cspec_l05Word {k : Nat} {u5y : Int} {r : Bool} (h : pspec_l05Word k u5y = some r) : FnO Tryz.prog 113 [.v (.int .u8 u5y) []] (.v (.bool r) []) [] := by
  refine FnO.o2 Tryz.func113 (rfl : Tryz.f113.body = some _) ?_
  intro w0 X0 Fin pv0 pb gt
  unfold pspec_l05Word at h
  apply Wc.seq
  refine Wc.r0 ⟨[tV 0 (.int .u8 u5y)], [], []⟩ ?_
  apply Wc.seq
  obtain ⟨u96, h236, h⟩ := obind h
  rcases oif h with ⟨h237, h⟩ | ⟨h237, h⟩
  · refine Wc.r2 [{}, { r := some (.v (.bool u96) []) }, { re := some (.bool true) }] ⟨[tB 2 true], [], []⟩ (.cons (cspec_l05Small h236) (.cons (congrArg AV.bool h237) .nil)) ?_
    obtain rfl := Option.some.inj h; exact Wc.ret dn
  · obtain ⟨uc3, h238, h⟩ := obind h
    rcases oif h with ⟨h239, h⟩ | ⟨h239, h⟩
    · refine Wc.r2 [{}, { r := some (.v (.bool u96) []) }, { re := some (.bool false) }, {}, { r := some (.v (.bool uc3) []) }, {}, { re := some (.bool true) }] ⟨[tB 2 true], [], []⟩ (.cons (cspec_l05Small h236) (.cons (congrArg AV.bool h237) (.cons (cspec_l05Great h238) (.cons (congrArg AV.bool h239) .nil)))) ?_
      obtain rfl := Option.some.inj h; exact Wc.ret dn
    · obtain ⟨uc4, h240, h⟩ := obind h
      refine Wc.r2 [{}, { r := some (.v (.bool u96) []) }, { re := some (.bool false) }, {}, { r := some (.v (.bool uc3) []) }, {}, { re := some (.bool false) }, {}, { r := some (.v (.bool uc4) []) }] ⟨[tB 2 uc4], [], []⟩ (.cons (cspec_l05Small h236) (.cons (congrArg AV.bool h237) (.cons (cspec_l05Great h238) (.cons (congrArg AV.bool h239) (.cons (cspec_l05Figure h240) .nil))))) ?_
      obtain rfl := Option.some.inj h; exact Wc.ret dn

def pspec_l05Run_L1 (k : Nat) (u21 : ByteArray) : Nat → Int → Option (Out Int Int)
  | 0, _ => none
  | m + 1, u1r =>
    if (decide (u1r < (u21.size : Int))) = true then
      if 0 ≤ u1r ∧ (u1r).toNat < u21.size then
        (pspec_l05Word k (bt u21 u1r)).bind fun uc5 =>
        if uc5 = true then
          pspec_l05Run_L1 k u21 m (wr.i64 (u1r + 1))
        else
          some (.done u1r)
      else none
    else
      some (.done u1r)
def pspec_l05Run (k : Nat) (u21 : ByteArray) (u97 : Int) : Option Int :=
  (pspec_l05Run_L1 k u21 k u97).bind fun out1 => match out1 with
  | .ret r => some r
  | .done u6u =>
    some u6u
theorem cspec_l05Run {k : Nat} {u21 : ByteArray} {u97 : Int} {r : Int} (h : pspec_l05Run k u21 u97 = some r) : FnO Tryz.prog 105 [.v (.str u21) [], .v (aI u97) []] (.v (aI r) []) [] := by
  refine FnO.o2 Tryz.func105 (rfl : Tryz.f105.body = some _) ?_
  intro w0 X0 Fin pv0 pb gt
  unfold pspec_l05Run at h
  apply Wc.seq
  refine Wc.r0 ⟨[tS 0 u21, tI 1 u97], [], []⟩ ?_
  obtain ⟨out1, h241, h⟩ := obind h
  refine Wc.seqJ (fun st => ∃ (u6u : Int), out1 = .done u6u ∧ st = ⟨[tI 1 u6u], [], []⟩) ?_ ?_
  · refine Wc.block ?_
    refine Wc.loop (fun m st => ∃ (u1r : Int), st = ⟨[tS 0 u21, tI 1 u1r], [], []⟩ ∧ pspec_l05Run_L1 k u21 m u1r = some out1) ?_ k ⟨_, rfl, h241⟩
    rintro m st ⟨u1r, rfl, h241⟩
    cases m with
    | zero => exact (onone h241).elim
    | succ m =>
      apply Wc.seq
      apply Wc.seq
      rcases oif h241 with ⟨h242, h241⟩ | ⟨h242, h241⟩
      · obtain ⟨h243, h241⟩ := oguard h241
        obtain ⟨uc5, h244, h241⟩ := obind h241
        refine Wc.r2 [{}, {}, {}, {}, { re := some (.bool true) }, {}, {}, {}, { r := some (.v (.bool uc5) []) }] ⟨[tS 0 u21, tI 1 u1r, tB 14 uc5], [], []⟩ (.cons (congrArg AV.bool h242) (.cons h243 (.cons (cspec_l05Word h244) .nil))) ?_
        rcases oif h241 with ⟨h245, h241⟩ | ⟨h245, h241⟩
        · refine Wc.cT h245 ?_
          refine Wc.fx [] ⟨[tS 0 u21, tI 1 u1r], [], []⟩ ?_
          refine Wc.skip ?_
          refine Wc.block ?_
          refine Wc.r0 ⟨[tS 0 u21, tI 1 (wr.i64 (u1r + 1))], [], []⟩ ?_
          exact ⟨_, Nat.lt_succ_self _, _, rfl, h241⟩
        · refine Wc.cF h245 ?_
          refine Wc.fx [] ⟨[tI 1 u1r], [], []⟩ ?_
          refine Wc.exit ?_
          obtain rfl := Option.some.inj h241
          exact ⟨_, rfl, rfl⟩
      · refine Wc.r2 [{}, {}, {}, {}, { re := some (.bool false) }] ⟨[tS 0 u21, tI 1 u1r, tB 14 false], [], []⟩ (.cons (congrArg AV.bool h242) .nil) ?_
        refine Wc.cF rfl ?_
        refine Wc.fx [] ⟨[tI 1 u1r], [], []⟩ ?_
        refine Wc.exit ?_
        obtain rfl := Option.some.inj h241
        exact ⟨_, rfl, rfl⟩
  · rintro st ⟨u6u, rfl, rfl⟩
    apply Wc.seq
    refine Wc.r0 ⟨[tI 4 u6u], [], []⟩ ?_
    obtain rfl := Option.some.inj h; exact Wc.ret dn

def pspec_l05Quoted_L1 (k : Nat) (u0e : ByteArray) (u0u : Int) : Nat → Int → Option (Out Int Unit)
  | 0, _ => none
  | m + 1, u0f =>
    if (decide (u0f < (u0e.size : Int))) = true then
      if 0 ≤ u0f ∧ (u0f).toNat < u0e.size then
        if ((bt u0e u0f) == 39) = true then
          if 0 ≤ (wr.i64 (u0u + 1)) ∧ (wr.i64 (u0u + 1)) ≤ u0f ∧ u0f ≤ (u0e.size : Int) then
            (pspec_l03Name k (u0e.extract ((wr.i64 (u0u + 1)) : Int).toNat (u0f : Int).toNat)).bind fun uc6 =>
            if uc6 = true then
              some (.ret (wr.i64 (u0f + 1)))
            else
              some (.ret 0)
          else none
        else
          pspec_l05Quoted_L1 k u0e u0u m (wr.i64 (u0f + 1))
      else none
    else
      some (.done ())
def pspec_l05Quoted (k : Nat) (u0e : ByteArray) (u0u : Int) : Option Int :=
  (pspec_l05Quoted_L1 k u0e u0u k (wr.i64 (u0u + 1))).bind fun out1 => match out1 with
  | .ret r => some r
  | .done () =>
    some 0
theorem cspec_l05Quoted {k : Nat} {u0e : ByteArray} {u0u : Int} {r : Int} (h : pspec_l05Quoted k u0e u0u = some r) : FnO Tryz.prog 107 [.v (.str u0e) [], .v (aI u0u) []] (.v (aI r) []) [] := by
  refine FnO.o2 Tryz.func107 (rfl : Tryz.f107.body = some _) ?_
  intro w0 X0 Fin pv0 pb gt
  unfold pspec_l05Quoted at h
  apply Wc.seq
  refine Wc.r0 ⟨[tS 0 u0e, tI 1 u0u], [], []⟩ ?_
  apply Wc.seq
  apply Wc.seq
  refine Wc.r0 ⟨[tS 0 u0e, tI 1 u0u, tI 5 (wr.i64 (u0u + 1))], [], []⟩ ?_
  obtain ⟨out1, h246, h⟩ := obind h
  refine Wc.lastJ (fun st => out1 = .done () ∧ st = ⟨[], [], []⟩) ?_ ?_
  · refine Wc.block ?_
    refine Wc.loop (fun m st => ∃ (u0f : Int), st = ⟨[tS 0 u0e, tI 1 u0u, tI 5 u0f], [], []⟩ ∧ pspec_l05Quoted_L1 k u0e u0u m u0f = some out1) ?_ k ⟨_, rfl, h246⟩
    rintro m st ⟨u0f, rfl, h246⟩
    cases m with
    | zero => exact (onone h246).elim
    | succ m =>
      apply Wc.seq
      apply Wc.seq
      refine Wc.r0 ⟨[tS 0 u0e, tI 1 u0u, tI 5 u0f, tB 11 (decide (u0f < (u0e.size : Int)))], [], []⟩ ?_
      rcases oif h246 with ⟨h247, h246⟩ | ⟨h247, h246⟩
      · refine Wc.cT h247 ?_
        refine Wc.fx [] ⟨[tS 0 u0e, tI 1 u0u, tI 5 u0f], [], []⟩ ?_
        refine Wc.skip ?_
        apply Wc.seq
        refine Wc.block ?_
        apply Wc.seq
        obtain ⟨h248, h246⟩ := oguard h246
        refine Wc.r2 [] ⟨[tS 0 u0e, tI 1 u0u, tI 5 u0f, tB 17 ((bt u0e u0f) == 39)], [], []⟩ (.cons h248 .nil) ?_
        rcases oif h246 with ⟨h249, h246⟩ | ⟨h249, h246⟩
        · refine Wc.cT h249 ?_
          apply Wc.seq
          apply Wc.seq
          obtain ⟨h250, h246⟩ := oguard h246
          obtain ⟨uc6, h251, h246⟩ := obind h246
          refine Wc.r2 [{}, {}, {}, {}, {}, { r := some (.v (.bool uc6) []) }] ⟨[tI 5 u0f, tB 23 uc6], [], []⟩ (.cons h250 (.cons (cspec_l03Name h251) .nil)) ?_
          rcases oif h246 with ⟨h252, h246⟩ | ⟨h252, h246⟩
          · refine Wc.cT h252 ?_
            apply Wc.seq
            refine Wc.r0 ⟨[tI 4 (wr.i64 (u0f + 1))], [], []⟩ ?_
            refine Wc.ret ?_
            obtain rfl := Option.some.inj h246
            obtain rfl := Option.some.inj h
            exact ⟨.inl rfl, by kernel_rfl, by kernel_rfl⟩
          · refine Wc.cF h252 ?_
            refine Wc.fx [] ⟨[], [], []⟩ ?_
            refine Wc.skip ?_
            apply Wc.seq
            refine Wc.r0 ⟨[tI 4 0], [], []⟩ ?_
            refine Wc.ret ?_
            obtain rfl := Option.some.inj h246
            obtain rfl := Option.some.inj h
            exact ⟨.inl rfl, by kernel_rfl, by kernel_rfl⟩
        · refine Wc.cF h249 ?_
          refine Wc.fx [] ⟨[tS 0 u0e, tI 1 u0u, tI 5 u0f], [], []⟩ ?_
          refine Wc.skip ?_
          refine Wc.r0 ⟨[tS 0 u0e, tI 1 u0u, tI 5 (wr.i64 (u0f + 1))], [], []⟩ ?_
          exact ⟨_, Nat.lt_succ_self _, _, rfl, h246⟩
      · refine Wc.cF h247 ?_
        refine Wc.fx [] ⟨[], [], []⟩ ?_
        refine Wc.exit ?_
        obtain rfl := Option.some.inj h246
        exact ⟨rfl, rfl⟩
  · rintro st ⟨rfl, rfl⟩
    apply Wc.seq
    refine Wc.r0 ⟨[tI 4 0], [], []⟩ ?_
    obtain rfl := Option.some.inj h; exact Wc.ret dn

def pspec_SymbolByte_L1 (k : Nat) (u1d : Int) : Nat → Int → Option (Out Bool Unit)
  | 0, _ => none
  | m + 1, u22 =>
    if (decide (u22 < ((bs [43, 45, 42, 47, 92, 94, 60, 62, 61, 126, 58, 46, 63, 64, 35, 38, 36]).size : Int))) = true then
      if 0 ≤ u22 ∧ (u22).toNat < (bs [43, 45, 42, 47, 92, 94, 60, 62, 61, 126, 58, 46, 63, 64, 35, 38, 36]).size then
        if ((bt (bs [43, 45, 42, 47, 92, 94, 60, 62, 61, 126, 58, 46, 63, 64, 35, 38, 36]) u22) == u1d) = true then
          some (.ret true)
        else
          pspec_SymbolByte_L1 k u1d m (wr.i64 (u22 + 1))
      else none
    else
      some (.done ())
def pspec_SymbolByte (k : Nat) (u1d : Int) : Option Bool :=
  (pspec_SymbolByte_L1 k u1d k 0).bind fun out1 => match out1 with
  | .ret r => some r
  | .done () =>
    some false
theorem cspec_SymbolByte {k : Nat} {u1d : Int} {r : Bool} (h : pspec_SymbolByte k u1d = some r) : FnO Tryz.prog 109 [.v (.int .u8 u1d) []] (.v (.bool r) []) [] := by
  refine FnO.o2 Tryz.func109 (rfl : Tryz.f109.body = some _) ?_
  intro w0 X0 Fin pv0 pb gt
  unfold pspec_SymbolByte at h
  apply Wc.seq
  refine Wc.r0 ⟨[tV 0 (.int .u8 u1d)], [], []⟩ ?_
  apply Wc.seq
  refine Wc.r0 ⟨[tV 0 (.int .u8 u1d), tS 3 (bs [43, 45, 42, 47, 92, 94, 60, 62, 61, 126, 58, 46, 63, 64, 35, 38, 36])], [], []⟩ ?_
  apply Wc.seq
  apply Wc.seq
  refine Wc.r0 ⟨[tV 0 (.int .u8 u1d), tS 3 (bs [43, 45, 42, 47, 92, 94, 60, 62, 61, 126, 58, 46, 63, 64, 35, 38, 36]), tI 4 0], [], []⟩ ?_
  obtain ⟨out1, h253, h⟩ := obind h
  refine Wc.lastJ (fun st => out1 = .done () ∧ st = ⟨[], [], []⟩) ?_ ?_
  · refine Wc.block ?_
    refine Wc.loop (fun m st => ∃ (u22 : Int), st = ⟨[tV 0 (.int .u8 u1d), tS 3 (bs [43, 45, 42, 47, 92, 94, 60, 62, 61, 126, 58, 46, 63, 64, 35, 38, 36]), tI 4 u22], [], []⟩ ∧ pspec_SymbolByte_L1 k u1d m u22 = some out1) ?_ k ⟨_, rfl, h253⟩
    rintro m st ⟨u22, rfl, h253⟩
    cases m with
    | zero => exact (onone h253).elim
    | succ m =>
      apply Wc.seq
      apply Wc.seq
      refine Wc.r0 ⟨[tV 0 (.int .u8 u1d), tS 3 (bs [43, 45, 42, 47, 92, 94, 60, 62, 61, 126, 58, 46, 63, 64, 35, 38, 36]), tI 4 u22, tB 8 (decide (u22 < ((bs [43, 45, 42, 47, 92, 94, 60, 62, 61, 126, 58, 46, 63, 64, 35, 38, 36]).size : Int)))], [], []⟩ ?_
      rcases oif h253 with ⟨h254, h253⟩ | ⟨h254, h253⟩
      · refine Wc.cT h254 ?_
        refine Wc.fx [] ⟨[tV 0 (.int .u8 u1d), tS 3 (bs [43, 45, 42, 47, 92, 94, 60, 62, 61, 126, 58, 46, 63, 64, 35, 38, 36]), tI 4 u22], [], []⟩ ?_
        refine Wc.skip ?_
        apply Wc.seq
        refine Wc.block ?_
        apply Wc.seq
        obtain ⟨h255, h253⟩ := oguard h253
        refine Wc.r2 [] ⟨[tV 0 (.int .u8 u1d), tS 3 (bs [43, 45, 42, 47, 92, 94, 60, 62, 61, 126, 58, 46, 63, 64, 35, 38, 36]), tI 4 u22, tB 15 ((bt (bs [43, 45, 42, 47, 92, 94, 60, 62, 61, 126, 58, 46, 63, 64, 35, 38, 36]) u22) == u1d)], [], []⟩ (.cons h255 .nil) ?_
        rcases oif h253 with ⟨h256, h253⟩ | ⟨h256, h253⟩
        · refine Wc.cT h256 ?_
          apply Wc.seq
          refine Wc.r0 ⟨[tB 2 true], [], []⟩ ?_
          refine Wc.ret ?_
          obtain rfl := Option.some.inj h253
          obtain rfl := Option.some.inj h
          exact ⟨.inl rfl, by kernel_rfl, by kernel_rfl⟩
        · refine Wc.cF h256 ?_
          refine Wc.fx [] ⟨[tV 0 (.int .u8 u1d), tS 3 (bs [43, 45, 42, 47, 92, 94, 60, 62, 61, 126, 58, 46, 63, 64, 35, 38, 36]), tI 4 u22], [], []⟩ ?_
          refine Wc.skip ?_
          refine Wc.r0 ⟨[tV 0 (.int .u8 u1d), tS 3 (bs [43, 45, 42, 47, 92, 94, 60, 62, 61, 126, 58, 46, 63, 64, 35, 38, 36]), tI 4 (wr.i64 (u22 + 1))], [], []⟩ ?_
          exact ⟨_, Nat.lt_succ_self _, _, rfl, h253⟩
      · refine Wc.cF h254 ?_
        refine Wc.fx [] ⟨[], [], []⟩ ?_
        refine Wc.exit ?_
        obtain rfl := Option.some.inj h253
        exact ⟨rfl, rfl⟩
  · rintro st ⟨rfl, rfl⟩
    apply Wc.seq
    refine Wc.r0 ⟨[tB 2 false], [], []⟩ ?_
    obtain rfl := Option.some.inj h; exact Wc.ret dn

def pspec_l05End (k : Nat) (u0v : ByteArray) (z9 : Int) : Option Bool :=
  if 0 ≤ z9 ∧ (z9).toNat < u0v.size then
    if ((bt u0v z9) == 46) = true then
      if (z9 == 0) = true then
        if ((wr.i64 (z9 + 1)) == (u0v.size : Int)) = true then
          some true
        else
          if 0 ≤ wr.i64 (z9 + 1) ∧ (wr.i64 (z9 + 1)).toNat < u0v.size then
            (pspec_l05Blank k (bt u0v (wr.i64 (z9 + 1)))).bind fun u43 =>
            if u43 = true then
              some true
            else
              if 0 ≤ wr.i64 (z9 + 1) ∧ (wr.i64 (z9 + 1)).toNat < u0v.size then
                some ((bt u0v (wr.i64 (z9 + 1))) == 37)
              else none
          else none
      else
        if 0 ≤ wr.i64 (z9 - 1) ∧ (wr.i64 (z9 - 1)).toNat < u0v.size then
          (pspec_SymbolByte k (bt u0v (wr.i64 (z9 - 1)))).bind fun u43 =>
          if (!u43) = true then
            if ((wr.i64 (z9 + 1)) == (u0v.size : Int)) = true then
              some true
            else
              if 0 ≤ wr.i64 (z9 + 1) ∧ (wr.i64 (z9 + 1)).toNat < u0v.size then
                (pspec_l05Blank k (bt u0v (wr.i64 (z9 + 1)))).bind fun uc7 =>
                if uc7 = true then
                  some true
                else
                  if 0 ≤ wr.i64 (z9 + 1) ∧ (wr.i64 (z9 + 1)).toNat < u0v.size then
                    some ((bt u0v (wr.i64 (z9 + 1))) == 37)
                  else none
              else none
          else
            some false
        else none
    else
      some false
  else none
theorem cspec_l05End {k : Nat} {u0v : ByteArray} {z9 : Int} {r : Bool} (h : pspec_l05End k u0v z9 = some r) : FnO Tryz.prog 108 [.v (.str u0v) [], .v (aI z9) []] (.v (.bool r) []) [] := by
  refine FnO.o2 Tryz.func108 (rfl : Tryz.f108.body = some _) ?_
  intro w0 X0 Fin pv0 pb gt
  unfold pspec_l05End at h
  apply Wc.seq
  refine Wc.r0 ⟨[tS 0 u0v, tI 1 z9], [], []⟩ ?_
  apply Wc.seq
  obtain ⟨h257, h⟩ := oguard h
  rcases oif h with ⟨h258, h⟩ | ⟨h258, h⟩
  · rcases oif h with ⟨h259, h⟩ | ⟨h259, h⟩
    · rcases oif h with ⟨h260, h⟩ | ⟨h260, h⟩
      · refine Wc.r2 [{}, {}, {}, {}, { re := some (.bool true) }, {}, {}, { re := some (.bool true) }, {}, {}, {}, {}, {}, {}, {}, {}, {}, {}, {}, {}, {}, {}, { re := some (.bool true) }] ⟨[tB 4 true], [], []⟩ (.cons h257 (.cons (congrArg AV.bool h258) (.cons (congrArg AV.bool h259) (.cons (congrArg AV.bool h260) .nil)))) ?_
        obtain rfl := Option.some.inj h; exact Wc.ret dn
      · obtain ⟨h261, h⟩ := oguard h
        obtain ⟨u43, h262, h⟩ := obind h
        rcases oif h with ⟨h263, h⟩ | ⟨h263, h⟩
        · refine Wc.r2 [{}, {}, {}, {}, { re := some (.bool true) }, {}, {}, { re := some (.bool true) }, {}, {}, {}, {}, {}, {}, {}, {}, {}, {}, {}, {}, {}, {}, { re := some (.bool false) }, {}, {}, {}, {}, { r := some (.v (.bool u43) []) }, {}, { re := some (.bool true) }] ⟨[tB 4 true], [], []⟩ (.cons h257 (.cons (congrArg AV.bool h258) (.cons (congrArg AV.bool h259) (.cons (congrArg AV.bool h260) (.cons h261 (.cons (cspec_l05Blank h262) (.cons (congrArg AV.bool h263) .nil))))))) ?_
          obtain rfl := Option.some.inj h; exact Wc.ret dn
        · obtain ⟨h264, h⟩ := oguard h
          refine Wc.r2 [{}, {}, {}, {}, { re := some (.bool true) }, {}, {}, { re := some (.bool true) }, {}, {}, {}, {}, {}, {}, {}, {}, {}, {}, {}, {}, {}, {}, { re := some (.bool false) }, {}, {}, {}, {}, { r := some (.v (.bool u43) []) }, {}, { re := some (.bool false) }] ⟨[tB 4 ((bt u0v (wr.i64 (z9 + 1))) == 37)], [], []⟩ (.cons h257 (.cons (congrArg AV.bool h258) (.cons (congrArg AV.bool h259) (.cons (congrArg AV.bool h260) (.cons h261 (.cons (cspec_l05Blank h262) (.cons (congrArg AV.bool h263) (.cons h264 .nil)))))))) ?_
          obtain rfl := Option.some.inj h; exact Wc.ret dn
    · obtain ⟨h260, h⟩ := oguard h
      obtain ⟨u43, h261, h⟩ := obind h
      rcases oif h with ⟨h262, h⟩ | ⟨h262, h⟩
      · rcases oif h with ⟨h263, h⟩ | ⟨h263, h⟩
        · refine Wc.r2 [{}, {}, {}, {}, { re := some (.bool true) }, {}, {}, { re := some (.bool false) }, {}, {}, {}, {}, { r := some (.v (.bool u43) []) }, {}, {}, {}, { re := some (.bool true) }, {}, {}, {}, {}, {}, { re := some (.bool true) }] ⟨[tB 4 true], [], []⟩ (.cons h257 (.cons (congrArg AV.bool h258) (.cons (congrArg AV.bool h259) (.cons h260 (.cons (cspec_SymbolByte h261) (.cons (congrArg AV.bool h262) (.cons (congrArg AV.bool h263) .nil))))))) ?_
          obtain rfl := Option.some.inj h; exact Wc.ret dn
        · obtain ⟨h264, h⟩ := oguard h
          obtain ⟨uc7, h265, h⟩ := obind h
          rcases oif h with ⟨h266, h⟩ | ⟨h266, h⟩
          · refine Wc.r2 [{}, {}, {}, {}, { re := some (.bool true) }, {}, {}, { re := some (.bool false) }, {}, {}, {}, {}, { r := some (.v (.bool u43) []) }, {}, {}, {}, { re := some (.bool true) }, {}, {}, {}, {}, {}, { re := some (.bool false) }, {}, {}, {}, {}, { r := some (.v (.bool uc7) []) }, {}, { re := some (.bool true) }] ⟨[tB 4 true], [], []⟩ (.cons h257 (.cons (congrArg AV.bool h258) (.cons (congrArg AV.bool h259) (.cons h260 (.cons (cspec_SymbolByte h261) (.cons (congrArg AV.bool h262) (.cons (congrArg AV.bool h263) (.cons h264 (.cons (cspec_l05Blank h265) (.cons (congrArg AV.bool h266) .nil)))))))))) ?_
            obtain rfl := Option.some.inj h; exact Wc.ret dn
          · obtain ⟨h267, h⟩ := oguard h
            refine Wc.r2 [{}, {}, {}, {}, { re := some (.bool true) }, {}, {}, { re := some (.bool false) }, {}, {}, {}, {}, { r := some (.v (.bool u43) []) }, {}, {}, {}, { re := some (.bool true) }, {}, {}, {}, {}, {}, { re := some (.bool false) }, {}, {}, {}, {}, { r := some (.v (.bool uc7) []) }, {}, { re := some (.bool false) }] ⟨[tB 4 ((bt u0v (wr.i64 (z9 + 1))) == 37)], [], []⟩ (.cons h257 (.cons (congrArg AV.bool h258) (.cons (congrArg AV.bool h259) (.cons h260 (.cons (cspec_SymbolByte h261) (.cons (congrArg AV.bool h262) (.cons (congrArg AV.bool h263) (.cons h264 (.cons (cspec_l05Blank h265) (.cons (congrArg AV.bool h266) (.cons h267 .nil))))))))))) ?_
            obtain rfl := Option.some.inj h; exact Wc.ret dn
      · refine Wc.r2 [{}, {}, {}, {}, { re := some (.bool true) }, {}, {}, { re := some (.bool false) }, {}, {}, {}, {}, { r := some (.v (.bool u43) []) }, {}, {}, {}, { re := some (.bool false) }] ⟨[tB 4 false], [], []⟩ (.cons h257 (.cons (congrArg AV.bool h258) (.cons (congrArg AV.bool h259) (.cons h260 (.cons (cspec_SymbolByte h261) (.cons (congrArg AV.bool h262) .nil)))))) ?_
        obtain rfl := Option.some.inj h; exact Wc.ret dn
  · refine Wc.r2 [{}, {}, {}, {}, { re := some (.bool false) }] ⟨[tB 4 false], [], []⟩ (.cons h257 (.cons (congrArg AV.bool h258) .nil)) ?_
    obtain rfl := Option.some.inj h; exact Wc.ret dn

def pspec_l05Sign_L2 (k : Nat) (u1 : ByteArray) : Nat → Int → Int → Option (Out (GSign × Int) (Int × Int))
  | 0, _, _ => none
  | m + 1, zj, u16 =>
    if (decide (zj < (u1.size : Int))) = true then
      if 0 ≤ zj ∧ (zj).toNat < u1.size then
        (pspec_l05Figure k (bt u1 zj)).bind fun uc8 =>
        if uc8 = true then
          if (decide (u16 ≤ 999999999)) = true then
            if 0 ≤ zj ∧ (zj).toNat < u1.size then
              pspec_l05Sign_L2 k u1 m (wr.i64 (zj + 1)) (wr.i64 ((wr.i64 ((wr.i64 (10 * u16)) + (wr.i64 (bt u1 zj)))) - 48))
            else none
          else
            some (.done (zj, u16))
        else
          some (.done (zj, u16))
      else none
    else
      some (.done (zj, u16))
def pspec_l05Sign_L5 (k : Nat) (u1 : ByteArray) : Nat → Int → Option (Out (GSign × Int) Int)
  | 0, _ => none
  | m + 1, u1s =>
    if (decide (u1s < (u1.size : Int))) = true then
      if 0 ≤ u1s ∧ (u1s).toNat < u1.size then
        (pspec_SymbolByte k (bt u1 u1s)).bind fun uc9 =>
        if uc9 = true then
          pspec_l05Sign_L5 k u1 m (wr.i64 (u1s + 1))
        else
          some (.done u1s)
      else none
    else
      some (.done u1s)
def pspec_l05Sign_J4 (k : Nat) (u1 : ByteArray) (u0 : Int) (u98 : Bool) : Option (GSign × Int) :=
  if u98 = true then
    some (GSign.mk 4 (u1.extract (u0 : Int).toNat ((wr.i64 (u0 + 1)) : Int).toNat) 0 u0 false, wr.i64 (u0 + 1))
  else
    (pspec_l05End k u1 u0).bind fun uca =>
    if uca = true then
      some (GSign.mk 5 (u1.extract (u0 : Int).toNat ((wr.i64 (u0 + 1)) : Int).toNat) 0 u0 false, wr.i64 (u0 + 1))
    else
      (pspec_SymbolByte k (bt u1 u0)).bind fun ucb =>
      if ucb = true then
        (pspec_l05Sign_L5 k u1 k u0).bind fun out5 => match out5 with
        | .ret r => some r
        | .done u1e =>
          if (decide ((wr.i64 (u1e - u0)) ≤ 20)) = true then
            if 0 ≤ u0 ∧ u0 ≤ u1e ∧ u1e ≤ (u1.size : Int) then
              some (GSign.mk 1 (u1.extract (u0 : Int).toNat (u1e : Int).toNat) 0 u0 false, u1e)
            else none
          else
            some (GSign.mk 6 (u1.extract (u0 : Int).toNat ((wr.i64 (u0 + 1)) : Int).toNat) 0 u0 false, wr.i64 (u0 + 1))
      else
        some (GSign.mk 6 (u1.extract (u0 : Int).toNat ((wr.i64 (u0 + 1)) : Int).toNat) 0 u0 false, wr.i64 (u0 + 1))
def pspec_l05Sign_J3 (k : Nat) (u1 : ByteArray) (u0 : Int) (u99 : Bool) : Option (GSign × Int) :=
  if u99 = true then
    some (GSign.mk 1 (u1.extract (u0 : Int).toNat ((wr.i64 (u0 + 1)) : Int).toNat) 0 u0 false, wr.i64 (u0 + 1))
  else
    if ((bt u1 u0) == 40) = true then
      pspec_l05Sign_J4 k u1 u0 true
    else
      if ((bt u1 u0) == 41) = true then
        pspec_l05Sign_J4 k u1 u0 true
      else
        if ((bt u1 u0) == 91) = true then
          pspec_l05Sign_J4 k u1 u0 true
        else
          if ((bt u1 u0) == 93) = true then
            pspec_l05Sign_J4 k u1 u0 true
          else
            if ((bt u1 u0) == 44) = true then
              pspec_l05Sign_J4 k u1 u0 true
            else
              pspec_l05Sign_J4 k u1 u0 ((bt u1 u0) == 124)
def pspec_l05Sign_J1 (k : Nat) (u1 : ByteArray) (u0 : Int) (u9a : Bool) : Option (GSign × Int) :=
  if u9a = true then
    (pspec_l05Run k u1 u0).bind fun vq =>
    if (decide ((wr.i64 (vq - u0)) ≤ 20)) = true then
      (pspec_l05Great k (bt u1 u0)).bind fun ucc =>
      if ucc = true then
        if 0 ≤ u0 ∧ u0 ≤ vq ∧ vq ≤ (u1.size : Int) then
          some (GSign.mk 2 (u1.extract (u0 : Int).toNat (vq : Int).toNat) 0 u0 false, vq)
        else none
      else
        if 0 ≤ u0 ∧ u0 ≤ vq ∧ vq ≤ (u1.size : Int) then
          some (GSign.mk 1 (u1.extract (u0 : Int).toNat (vq : Int).toNat) 0 u0 false, vq)
        else none
    else
      some (GSign.mk 6 (u1.extract (u0 : Int).toNat ((wr.i64 (u0 + 1)) : Int).toNat) 0 u0 false, wr.i64 (u0 + 1))
  else
    (pspec_l05Figure k (bt u1 u0)).bind fun ucd =>
    if ucd = true then
      (pspec_l05Sign_L2 k u1 k u0 0).bind fun out2 => match out2 with
      | .ret r => some r
      | .done (u5z, u4v) =>
        if (decide (u4v ≤ 999999999)) = true then
          some (GSign.mk 3 (bs []) u4v u0 false, u5z)
        else
          some (GSign.mk 6 (u1.extract (u0 : Int).toNat ((wr.i64 (u0 + 1)) : Int).toNat) 0 u0 false, wr.i64 (u0 + 1))
    else
      if ((bt u1 u0) == 39) = true then
        (pspec_l05Quoted k u1 u0).bind fun u23 =>
        if (decide (u23 > 0)) = true then
          if 0 ≤ (wr.i64 (u0 + 1)) ∧ (wr.i64 (u0 + 1)) ≤ (wr.i64 (u23 - 1)) ∧ (wr.i64 (u23 - 1)) ≤ (u1.size : Int) then
            some (GSign.mk 1 (u1.extract ((wr.i64 (u0 + 1)) : Int).toNat ((wr.i64 (u23 - 1)) : Int).toNat) 0 u0 false, u23)
          else none
        else
          some (GSign.mk 6 (u1.extract (u0 : Int).toNat ((wr.i64 (u0 + 1)) : Int).toNat) 0 u0 false, wr.i64 (u0 + 1))
      else
        if ((bt u1 u0) == 33) = true then
          pspec_l05Sign_J3 k u1 u0 true
        else
          pspec_l05Sign_J3 k u1 u0 ((bt u1 u0) == 59)
def pspec_l05Sign (k : Nat) (u1 : ByteArray) (u0 : Int) : Option (GSign × Int) :=
  if 0 ≤ u0 ∧ (u0).toNat < u1.size then
    if 0 ≤ u0 ∧ u0 ≤ (wr.i64 (u0 + 1)) ∧ (wr.i64 (u0 + 1)) ≤ (u1.size : Int) then
      (pspec_l05Small k (bt u1 u0)).bind fun uce =>
      if uce = true then
        pspec_l05Sign_J1 k u1 u0 true
      else
        (pspec_l05Great k (bt u1 u0)).bind fun ucf =>
        pspec_l05Sign_J1 k u1 u0 ucf
    else none
  else none
set_option maxHeartbeats 4000000 in
theorem cspec_l05Sign {k : Nat} {u1 : ByteArray} {u0 : Int} {r : GSign × Int} (h : pspec_l05Sign k u1 u0 = some r) : FnO Tryz.prog 91 [.v (.str u1) [], .v (aI u0) []] (.v (.tup [.agg (GSign.q r.1), aI r.2]) []) [] := by
  refine FnO.o2 Tryz.func91 (rfl : Tryz.f91.body = some _) ?_
  intro w0 X0 Fin pv0 pb gt
  unfold pspec_l05Sign at h
  apply Wc.seq
  refine Wc.r0 ⟨[tS 0 u1, tI 1 u0, tP 4 4], [bC 4 GSign.z], []⟩ ?_
  apply Wc.seq
  obtain ⟨h268, h⟩ := oguard h
  refine Wc.r2 [] ⟨[tS 0 u1, tI 1 u0, tP 4 4, tV 6 (.int .u8 (bt u1 u0))], [bC 4 GSign.z], []⟩ (.cons h268 .nil) ?_
  apply Wc.seq
  obtain ⟨h269, h⟩ := oguard h
  refine Wc.r2 [] ⟨[tS 0 u1, tI 1 u0, tP 4 4, tV 6 (.int .u8 (bt u1 u0)), tP 7 7], [bC 4 GSign.z, bC 7 [aI 6, .str (u1.extract (u0 : Int).toNat ((wr.i64 (u0 + 1)) : Int).toNat), aI 0, aI u0, .bool false]], []⟩ (.cons h269 .nil) ?_
  apply Wc.seq
  refine Wc.r0 ⟨[tS 0 u1, tI 1 u0, tP 4 4, tV 6 (.int .u8 (bt u1 u0)), tP 7 7, tI 8 (wr.i64 (u0 + 1))], [bC 4 GSign.z, bC 7 [aI 6, .str (u1.extract (u0 : Int).toNat ((wr.i64 (u0 + 1)) : Int).toNat), aI 0, aI u0, .bool false]], []⟩ ?_
  apply Wc.seq
  refine Wc.block ?_
  refine Wc.seqJ (fun st => ∃ (u9a : Bool), st = ⟨[tS 0 u1, tI 1 u0, tP 4 4, tV 6 (.int .u8 (bt u1 u0)), tP 7 7, tI 8 (wr.i64 (u0 + 1)), tB 26 u9a], [bC 4 GSign.z, bC 7 [aI 6, .str (u1.extract (u0 : Int).toNat ((wr.i64 (u0 + 1)) : Int).toNat), aI 0, aI u0, .bool false]], []⟩ ∧ pspec_l05Sign_J1 k u1 u0 u9a = some r) ?_ ?_
  · obtain ⟨uce, h310, h⟩ := obind h
    rcases oif h with ⟨h311, h⟩ | ⟨h311, h⟩
    · refine Wc.r2 [{}, { r := some (.v (.bool uce) []) }, { re := some (.bool true) }] ⟨[tS 0 u1, tI 1 u0, tP 4 4, tV 6 (.int .u8 (bt u1 u0)), tP 7 7, tI 8 (wr.i64 (u0 + 1)), tB 26 true], [bC 4 GSign.z, bC 7 [aI 6, .str (u1.extract (u0 : Int).toNat ((wr.i64 (u0 + 1)) : Int).toNat), aI 0, aI u0, .bool false]], []⟩ (.cons (cspec_l05Small h310) (.cons (congrArg AV.bool h311) .nil)) ?_
      exact ⟨_, rfl, h⟩
    · obtain ⟨ucf, h312, h⟩ := obind h
      refine Wc.r2 [{}, { r := some (.v (.bool uce) []) }, { re := some (.bool false) }, {}, { r := some (.v (.bool ucf) []) }] ⟨[tS 0 u1, tI 1 u0, tP 4 4, tV 6 (.int .u8 (bt u1 u0)), tP 7 7, tI 8 (wr.i64 (u0 + 1)), tB 26 ucf], [bC 4 GSign.z, bC 7 [aI 6, .str (u1.extract (u0 : Int).toNat ((wr.i64 (u0 + 1)) : Int).toNat), aI 0, aI u0, .bool false]], []⟩ (.cons (cspec_l05Small h310) (.cons (congrArg AV.bool h311) (.cons (cspec_l05Great h312) .nil))) ?_
      exact ⟨_, rfl, h⟩
  · rintro st ⟨u9a, rfl, h⟩
    rcases oif h with ⟨h270, h⟩ | ⟨h270, h⟩
    · refine Wc.cT h270 ?_
      apply Wc.seq
      obtain ⟨vq, h271, h⟩ := obind h
      refine Wc.r2 [{}, {}, { r := some (.v (aI vq) []) }] ⟨[tS 0 u1, tI 1 u0, tP 4 4, tV 6 (.int .u8 (bt u1 u0)), tP 7 7, tI 8 (wr.i64 (u0 + 1)), tI 9 vq], [bC 4 GSign.z, bC 7 [aI 6, .str (u1.extract (u0 : Int).toNat ((wr.i64 (u0 + 1)) : Int).toNat), aI 0, aI u0, .bool false]], []⟩ (.cons (cspec_l05Run h271) .nil) ?_
      apply Wc.seq
      refine Wc.r0 ⟨[tS 0 u1, tI 1 u0, tP 4 4, tV 6 (.int .u8 (bt u1 u0)), tP 7 7, tI 8 (wr.i64 (u0 + 1)), tI 9 vq, tB 39 (decide ((wr.i64 (vq - u0)) ≤ 20))], [bC 4 GSign.z, bC 7 [aI 6, .str (u1.extract (u0 : Int).toNat ((wr.i64 (u0 + 1)) : Int).toNat), aI 0, aI u0, .bool false]], []⟩ ?_
      rcases oif h with ⟨h272, h⟩ | ⟨h272, h⟩
      · refine Wc.cT h272 ?_
        apply Wc.seq
        refine Wc.r0 ⟨[tS 0 u1, tI 1 u0, tP 4 4, tV 6 (.int .u8 (bt u1 u0)), tP 7 7, tI 9 vq], [bC 4 GSign.z, bC 7 [aI 1, .str (u1.extract (u0 : Int).toNat ((wr.i64 (u0 + 1)) : Int).toNat), aI 0, aI u0, .bool false]], []⟩ ?_
        apply Wc.seq
        apply Wc.seq
        obtain ⟨ucc, h273, h⟩ := obind h
        refine Wc.r2 [{}, { r := some (.v (.bool ucc) []) }] ⟨[tS 0 u1, tI 1 u0, tP 4 4, tP 7 7, tI 9 vq, tB 42 ucc], [bC 4 GSign.z, bC 7 [aI 1, .str (u1.extract (u0 : Int).toNat ((wr.i64 (u0 + 1)) : Int).toNat), aI 0, aI u0, .bool false]], []⟩ (.cons (cspec_l05Great h273) .nil) ?_
        rcases oif h with ⟨h274, h⟩ | ⟨h274, h⟩
        · refine Wc.cT h274 ?_
          refine Wc.r0 ⟨[tS 0 u1, tI 1 u0, tP 4 4, tP 7 7, tI 9 vq], [bC 4 GSign.z, bC 7 [aI 2, .str (u1.extract (u0 : Int).toNat ((wr.i64 (u0 + 1)) : Int).toNat), aI 0, aI u0, .bool false]], []⟩ ?_
          apply Wc.seq
          obtain ⟨h275, h⟩ := oguard h
          refine Wc.r2 [] ⟨[tP 4 4, tP 7 7, tI 9 vq], [bC 4 GSign.z, bC 7 [aI 2, .str (u1.extract (u0 : Int).toNat (vq : Int).toNat), aI 0, aI u0, .bool false]], []⟩ (.cons h275 .nil) ?_
          refine Wc.r0 ⟨[tP 4 4, tP 7 7, tI 8 vq], [bC 4 GSign.z, bC 7 [aI 2, .str (u1.extract (u0 : Int).toNat (vq : Int).toNat), aI 0, aI u0, .bool false]], []⟩ ?_
          apply Wc.seq
          refine Wc.r0 ⟨[tP 4 4, tI 5 vq], [bC 4 [aI 2, .str (u1.extract (u0 : Int).toNat (vq : Int).toNat), aI 0, aI u0, .bool false]], []⟩ ?_
          obtain rfl := Option.some.inj h; exact Wc.ret dn
        · refine Wc.cF h274 ?_
          refine Wc.fx [] ⟨[tS 0 u1, tI 1 u0, tP 4 4, tP 7 7, tI 9 vq], [bC 4 GSign.z, bC 7 [aI 1, .str (u1.extract (u0 : Int).toNat ((wr.i64 (u0 + 1)) : Int).toNat), aI 0, aI u0, .bool false]], []⟩ ?_
          refine Wc.skip ?_
          apply Wc.seq
          obtain ⟨h276, h⟩ := oguard h
          refine Wc.r2 [] ⟨[tP 4 4, tP 7 7, tI 9 vq], [bC 4 GSign.z, bC 7 [aI 1, .str (u1.extract (u0 : Int).toNat (vq : Int).toNat), aI 0, aI u0, .bool false]], []⟩ (.cons h276 .nil) ?_
          refine Wc.r0 ⟨[tP 4 4, tP 7 7, tI 8 vq], [bC 4 GSign.z, bC 7 [aI 1, .str (u1.extract (u0 : Int).toNat (vq : Int).toNat), aI 0, aI u0, .bool false]], []⟩ ?_
          apply Wc.seq
          refine Wc.r0 ⟨[tP 4 4, tI 5 vq], [bC 4 [aI 1, .str (u1.extract (u0 : Int).toNat (vq : Int).toNat), aI 0, aI u0, .bool false]], []⟩ ?_
          obtain rfl := Option.some.inj h; exact Wc.ret dn
      · refine Wc.cF h272 ?_
        refine Wc.fx [] ⟨[tP 4 4, tP 7 7, tI 8 (wr.i64 (u0 + 1))], [bC 4 GSign.z, bC 7 [aI 6, .str (u1.extract (u0 : Int).toNat ((wr.i64 (u0 + 1)) : Int).toNat), aI 0, aI u0, .bool false]], []⟩ ?_
        refine Wc.skip ?_
        apply Wc.seq
        refine Wc.r0 ⟨[tP 4 4, tI 5 (wr.i64 (u0 + 1))], [bC 4 [aI 6, .str (u1.extract (u0 : Int).toNat ((wr.i64 (u0 + 1)) : Int).toNat), aI 0, aI u0, .bool false]], []⟩ ?_
        obtain rfl := Option.some.inj h; exact Wc.ret dn
    · refine Wc.cF h270 ?_
      apply Wc.seq
      obtain ⟨ucd, h277, h⟩ := obind h
      refine Wc.r2 [{}, { r := some (.v (.bool ucd) []) }] ⟨[tS 0 u1, tI 1 u0, tP 4 4, tV 6 (.int .u8 (bt u1 u0)), tP 7 7, tI 8 (wr.i64 (u0 + 1)), tB 50 ucd], [bC 4 GSign.z, bC 7 [aI 6, .str (u1.extract (u0 : Int).toNat ((wr.i64 (u0 + 1)) : Int).toNat), aI 0, aI u0, .bool false]], []⟩ (.cons (cspec_l05Figure h277) .nil) ?_
      rcases oif h with ⟨h278, h⟩ | ⟨h278, h⟩
      · refine Wc.cT h278 ?_
        apply Wc.seq
        refine Wc.r0 ⟨[tS 0 u1, tI 1 u0, tP 4 4, tP 7 7, tI 8 (wr.i64 (u0 + 1)), tI 10 u0], [bC 4 GSign.z, bC 7 [aI 6, .str (u1.extract (u0 : Int).toNat ((wr.i64 (u0 + 1)) : Int).toNat), aI 0, aI u0, .bool false]], []⟩ ?_
        apply Wc.seq
        refine Wc.r0 ⟨[tS 0 u1, tI 1 u0, tP 4 4, tP 7 7, tI 8 (wr.i64 (u0 + 1)), tI 10 u0, tI 11 0], [bC 4 GSign.z, bC 7 [aI 6, .str (u1.extract (u0 : Int).toNat ((wr.i64 (u0 + 1)) : Int).toNat), aI 0, aI u0, .bool false]], []⟩ ?_
        obtain ⟨out2, h279, h⟩ := obind h
        refine Wc.seqJ (fun st => ∃ (u5z : Int) (u4v : Int), out2 = .done (u5z, u4v) ∧ st = ⟨[tI 1 u0, tP 4 4, tP 7 7, tI 8 (wr.i64 (u0 + 1)), tI 10 u5z, tI 11 u4v], [bC 4 GSign.z, bC 7 [aI 6, .str (u1.extract (u0 : Int).toNat ((wr.i64 (u0 + 1)) : Int).toNat), aI 0, aI u0, .bool false]], []⟩) ?_ ?_
        · refine Wc.block ?_
          refine Wc.loop (fun m st => ∃ (zj : Int) (u16 : Int), st = ⟨[tS 0 u1, tI 1 u0, tP 4 4, tP 7 7, tI 8 (wr.i64 (u0 + 1)), tI 10 zj, tI 11 u16], [bC 4 GSign.z, bC 7 [aI 6, .str (u1.extract (u0 : Int).toNat ((wr.i64 (u0 + 1)) : Int).toNat), aI 0, aI u0, .bool false]], []⟩ ∧ pspec_l05Sign_L2 k u1 m zj u16 = some out2) ?_ k ⟨_, _, rfl, h279⟩
          rintro m st ⟨zj, u16, rfl, h279⟩
          cases m with
          | zero => exact (onone h279).elim
          | succ m =>
            apply Wc.seq
            apply Wc.seq
            rcases oif h279 with ⟨h280, h279⟩ | ⟨h280, h279⟩
            · obtain ⟨h281, h279⟩ := oguard h279
              obtain ⟨uc8, h282, h279⟩ := obind h279
              rcases oif h279 with ⟨h283, h279⟩ | ⟨h283, h279⟩
              · refine Wc.r2 [{}, {}, {}, {}, { re := some (.bool true) }, {}, {}, {}, { r := some (.v (.bool uc8) []) }, {}, { re := some (.bool true) }] ⟨[tS 0 u1, tI 1 u0, tP 4 4, tP 7 7, tI 8 (wr.i64 (u0 + 1)), tI 10 zj, tI 11 u16, tB 67 (decide (u16 ≤ 999999999))], [bC 4 GSign.z, bC 7 [aI 6, .str (u1.extract (u0 : Int).toNat ((wr.i64 (u0 + 1)) : Int).toNat), aI 0, aI u0, .bool false]], []⟩ (.cons (congrArg AV.bool h280) (.cons h281 (.cons (cspec_l05Figure h282) (.cons (congrArg AV.bool h283) .nil)))) ?_
                rcases oif h279 with ⟨h284, h279⟩ | ⟨h284, h279⟩
                · refine Wc.cT h284 ?_
                  refine Wc.fx [] ⟨[tS 0 u1, tI 1 u0, tP 4 4, tP 7 7, tI 8 (wr.i64 (u0 + 1)), tI 10 zj, tI 11 u16], [bC 4 GSign.z, bC 7 [aI 6, .str (u1.extract (u0 : Int).toNat ((wr.i64 (u0 + 1)) : Int).toNat), aI 0, aI u0, .bool false]], []⟩ ?_
                  refine Wc.skip ?_
                  refine Wc.block ?_
                  apply Wc.seq
                  obtain ⟨h285, h279⟩ := oguard h279
                  refine Wc.r2 [] ⟨[tS 0 u1, tI 1 u0, tP 4 4, tP 7 7, tI 8 (wr.i64 (u0 + 1)), tI 10 zj, tI 11 (wr.i64 ((wr.i64 ((wr.i64 (10 * u16)) + (wr.i64 (bt u1 zj)))) - 48))], [bC 4 GSign.z, bC 7 [aI 6, .str (u1.extract (u0 : Int).toNat ((wr.i64 (u0 + 1)) : Int).toNat), aI 0, aI u0, .bool false]], []⟩ (.cons h285 .nil) ?_
                  refine Wc.r0 ⟨[tS 0 u1, tI 1 u0, tP 4 4, tP 7 7, tI 8 (wr.i64 (u0 + 1)), tI 10 (wr.i64 (zj + 1)), tI 11 (wr.i64 ((wr.i64 ((wr.i64 (10 * u16)) + (wr.i64 (bt u1 zj)))) - 48))], [bC 4 GSign.z, bC 7 [aI 6, .str (u1.extract (u0 : Int).toNat ((wr.i64 (u0 + 1)) : Int).toNat), aI 0, aI u0, .bool false]], []⟩ ?_
                  exact ⟨_, Nat.lt_succ_self _, _, _, rfl, h279⟩
                · refine Wc.cF h284 ?_
                  refine Wc.fx [] ⟨[tI 1 u0, tP 4 4, tP 7 7, tI 8 (wr.i64 (u0 + 1)), tI 10 zj, tI 11 u16], [bC 4 GSign.z, bC 7 [aI 6, .str (u1.extract (u0 : Int).toNat ((wr.i64 (u0 + 1)) : Int).toNat), aI 0, aI u0, .bool false]], []⟩ ?_
                  refine Wc.exit ?_
                  obtain rfl := Option.some.inj h279
                  exact ⟨_, _, rfl, rfl⟩
              · refine Wc.r2 [{}, {}, {}, {}, { re := some (.bool true) }, {}, {}, {}, { r := some (.v (.bool uc8) []) }, {}, { re := some (.bool false) }] ⟨[tS 0 u1, tI 1 u0, tP 4 4, tP 7 7, tI 8 (wr.i64 (u0 + 1)), tI 10 zj, tI 11 u16, tB 67 false], [bC 4 GSign.z, bC 7 [aI 6, .str (u1.extract (u0 : Int).toNat ((wr.i64 (u0 + 1)) : Int).toNat), aI 0, aI u0, .bool false]], []⟩ (.cons (congrArg AV.bool h280) (.cons h281 (.cons (cspec_l05Figure h282) (.cons (congrArg AV.bool h283) .nil)))) ?_
                refine Wc.cF rfl ?_
                refine Wc.fx [] ⟨[tI 1 u0, tP 4 4, tP 7 7, tI 8 (wr.i64 (u0 + 1)), tI 10 zj, tI 11 u16], [bC 4 GSign.z, bC 7 [aI 6, .str (u1.extract (u0 : Int).toNat ((wr.i64 (u0 + 1)) : Int).toNat), aI 0, aI u0, .bool false]], []⟩ ?_
                refine Wc.exit ?_
                obtain rfl := Option.some.inj h279
                exact ⟨_, _, rfl, rfl⟩
            · refine Wc.r2 [{}, {}, {}, {}, { re := some (.bool false) }] ⟨[tS 0 u1, tI 1 u0, tP 4 4, tP 7 7, tI 8 (wr.i64 (u0 + 1)), tI 10 zj, tI 11 u16, tB 67 false], [bC 4 GSign.z, bC 7 [aI 6, .str (u1.extract (u0 : Int).toNat ((wr.i64 (u0 + 1)) : Int).toNat), aI 0, aI u0, .bool false]], []⟩ (.cons (congrArg AV.bool h280) .nil) ?_
              refine Wc.cF rfl ?_
              refine Wc.fx [] ⟨[tI 1 u0, tP 4 4, tP 7 7, tI 8 (wr.i64 (u0 + 1)), tI 10 zj, tI 11 u16], [bC 4 GSign.z, bC 7 [aI 6, .str (u1.extract (u0 : Int).toNat ((wr.i64 (u0 + 1)) : Int).toNat), aI 0, aI u0, .bool false]], []⟩ ?_
              refine Wc.exit ?_
              obtain rfl := Option.some.inj h279
              exact ⟨_, _, rfl, rfl⟩
        · rintro st ⟨u5z, u4v, rfl, rfl⟩
          apply Wc.seq
          refine Wc.r0 ⟨[tI 1 u0, tP 4 4, tP 7 7, tI 8 (wr.i64 (u0 + 1)), tI 10 u5z, tI 11 u4v, tB 79 (decide (u4v ≤ 999999999))], [bC 4 GSign.z, bC 7 [aI 6, .str (u1.extract (u0 : Int).toNat ((wr.i64 (u0 + 1)) : Int).toNat), aI 0, aI u0, .bool false]], []⟩ ?_
          rcases oif h with ⟨h286, h⟩ | ⟨h286, h⟩
          · refine Wc.cT h286 ?_
            apply Wc.seq
            refine Wc.r0 ⟨[tP 4 4, tI 5 u5z], [bC 4 [aI 3, .str (bs []), aI u4v, aI u0, .bool false]], []⟩ ?_
            obtain rfl := Option.some.inj h; exact Wc.ret dn
          · refine Wc.cF h286 ?_
            refine Wc.fx [] ⟨[tP 4 4, tP 7 7, tI 8 (wr.i64 (u0 + 1))], [bC 4 GSign.z, bC 7 [aI 6, .str (u1.extract (u0 : Int).toNat ((wr.i64 (u0 + 1)) : Int).toNat), aI 0, aI u0, .bool false]], []⟩ ?_
            refine Wc.skip ?_
            apply Wc.seq
            refine Wc.r0 ⟨[tP 4 4, tI 5 (wr.i64 (u0 + 1))], [bC 4 [aI 6, .str (u1.extract (u0 : Int).toNat ((wr.i64 (u0 + 1)) : Int).toNat), aI 0, aI u0, .bool false]], []⟩ ?_
            obtain rfl := Option.some.inj h; exact Wc.ret dn
      · refine Wc.cF h278 ?_
        apply Wc.seq
        refine Wc.r0 ⟨[tS 0 u1, tI 1 u0, tP 4 4, tV 6 (.int .u8 (bt u1 u0)), tP 7 7, tI 8 (wr.i64 (u0 + 1)), tB 84 ((bt u1 u0) == 39)], [bC 4 GSign.z, bC 7 [aI 6, .str (u1.extract (u0 : Int).toNat ((wr.i64 (u0 + 1)) : Int).toNat), aI 0, aI u0, .bool false]], []⟩ ?_
        rcases oif h with ⟨h287, h⟩ | ⟨h287, h⟩
        · refine Wc.cT h287 ?_
          apply Wc.seq
          obtain ⟨u23, h288, h⟩ := obind h
          refine Wc.r2 [{}, {}, { r := some (.v (aI u23) []) }] ⟨[tS 0 u1, tI 1 u0, tP 4 4, tP 7 7, tI 8 (wr.i64 (u0 + 1)), tI 12 u23], [bC 4 GSign.z, bC 7 [aI 6, .str (u1.extract (u0 : Int).toNat ((wr.i64 (u0 + 1)) : Int).toNat), aI 0, aI u0, .bool false]], []⟩ (.cons (cspec_l05Quoted h288) .nil) ?_
          apply Wc.seq
          refine Wc.r0 ⟨[tS 0 u1, tI 1 u0, tP 4 4, tP 7 7, tI 8 (wr.i64 (u0 + 1)), tI 12 u23, tB 91 (decide (u23 > 0))], [bC 4 GSign.z, bC 7 [aI 6, .str (u1.extract (u0 : Int).toNat ((wr.i64 (u0 + 1)) : Int).toNat), aI 0, aI u0, .bool false]], []⟩ ?_
          rcases oif h with ⟨h289, h⟩ | ⟨h289, h⟩
          · refine Wc.cT h289 ?_
            apply Wc.seq
            obtain ⟨h290, h⟩ := oguard h
            refine Wc.r2 [] ⟨[tP 4 4, tP 7 7, tI 12 u23], [bC 4 GSign.z, bC 7 [aI 1, .str (u1.extract ((wr.i64 (u0 + 1)) : Int).toNat ((wr.i64 (u23 - 1)) : Int).toNat), aI 0, aI u0, .bool false]], []⟩ (.cons h290 .nil) ?_
            refine Wc.r0 ⟨[tP 4 4, tP 7 7, tI 8 u23], [bC 4 GSign.z, bC 7 [aI 1, .str (u1.extract ((wr.i64 (u0 + 1)) : Int).toNat ((wr.i64 (u23 - 1)) : Int).toNat), aI 0, aI u0, .bool false]], []⟩ ?_
            apply Wc.seq
            refine Wc.r0 ⟨[tP 4 4, tI 5 u23], [bC 4 [aI 1, .str (u1.extract ((wr.i64 (u0 + 1)) : Int).toNat ((wr.i64 (u23 - 1)) : Int).toNat), aI 0, aI u0, .bool false]], []⟩ ?_
            obtain rfl := Option.some.inj h; exact Wc.ret dn
          · refine Wc.cF h289 ?_
            refine Wc.fx [] ⟨[tP 4 4, tP 7 7, tI 8 (wr.i64 (u0 + 1))], [bC 4 GSign.z, bC 7 [aI 6, .str (u1.extract (u0 : Int).toNat ((wr.i64 (u0 + 1)) : Int).toNat), aI 0, aI u0, .bool false]], []⟩ ?_
            refine Wc.skip ?_
            apply Wc.seq
            refine Wc.r0 ⟨[tP 4 4, tI 5 (wr.i64 (u0 + 1))], [bC 4 [aI 6, .str (u1.extract (u0 : Int).toNat ((wr.i64 (u0 + 1)) : Int).toNat), aI 0, aI u0, .bool false]], []⟩ ?_
            obtain rfl := Option.some.inj h; exact Wc.ret dn
        · refine Wc.cF h287 ?_
          refine Wc.seqJ (fun st => ∃ (u99 : Bool), st = ⟨[tS 0 u1, tI 1 u0, tP 4 4, tV 6 (.int .u8 (bt u1 u0)), tP 7 7, tI 8 (wr.i64 (u0 + 1)), tB 101 u99], [bC 4 GSign.z, bC 7 [aI 6, .str (u1.extract (u0 : Int).toNat ((wr.i64 (u0 + 1)) : Int).toNat), aI 0, aI u0, .bool false]], []⟩ ∧ pspec_l05Sign_J3 k u1 u0 u99 = some r) ?_ ?_
          · rcases oif h with ⟨h309, h⟩ | ⟨h309, h⟩
            · refine Wc.r2 [{}, {}, { re := some (.bool true) }] ⟨[tS 0 u1, tI 1 u0, tP 4 4, tV 6 (.int .u8 (bt u1 u0)), tP 7 7, tI 8 (wr.i64 (u0 + 1)), tB 101 true], [bC 4 GSign.z, bC 7 [aI 6, .str (u1.extract (u0 : Int).toNat ((wr.i64 (u0 + 1)) : Int).toNat), aI 0, aI u0, .bool false]], []⟩ (.cons (congrArg AV.bool h309) .nil) ?_
              exact ⟨_, rfl, h⟩
            · refine Wc.r2 [{}, {}, { re := some (.bool false) }] ⟨[tS 0 u1, tI 1 u0, tP 4 4, tV 6 (.int .u8 (bt u1 u0)), tP 7 7, tI 8 (wr.i64 (u0 + 1)), tB 101 ((bt u1 u0) == 59)], [bC 4 GSign.z, bC 7 [aI 6, .str (u1.extract (u0 : Int).toNat ((wr.i64 (u0 + 1)) : Int).toNat), aI 0, aI u0, .bool false]], []⟩ (.cons (congrArg AV.bool h309) .nil) ?_
              exact ⟨_, rfl, h⟩
          · rintro st ⟨u99, rfl, h⟩
            rcases oif h with ⟨h291, h⟩ | ⟨h291, h⟩
            · refine Wc.cT h291 ?_
              refine Wc.r0 ⟨[tP 4 4, tP 7 7, tI 8 (wr.i64 (u0 + 1))], [bC 4 GSign.z, bC 7 [aI 1, .str (u1.extract (u0 : Int).toNat ((wr.i64 (u0 + 1)) : Int).toNat), aI 0, aI u0, .bool false]], []⟩ ?_
              apply Wc.seq
              refine Wc.r0 ⟨[tP 4 4, tI 5 (wr.i64 (u0 + 1))], [bC 4 [aI 1, .str (u1.extract (u0 : Int).toNat ((wr.i64 (u0 + 1)) : Int).toNat), aI 0, aI u0, .bool false]], []⟩ ?_
              obtain rfl := Option.some.inj h; exact Wc.ret dn
            · refine Wc.cF h291 ?_
              refine Wc.seqJ (fun st => ∃ (u98 : Bool), st = ⟨[tS 0 u1, tI 1 u0, tP 4 4, tV 6 (.int .u8 (bt u1 u0)), tP 7 7, tI 8 (wr.i64 (u0 + 1)), tB 109 u98], [bC 4 GSign.z, bC 7 [aI 6, .str (u1.extract (u0 : Int).toNat ((wr.i64 (u0 + 1)) : Int).toNat), aI 0, aI u0, .bool false]], []⟩ ∧ pspec_l05Sign_J4 k u1 u0 u98 = some r) ?_ ?_
              · rcases oif h with ⟨h304, h⟩ | ⟨h304, h⟩
                · refine Wc.r2 [{}, {}, { re := some (.bool true) }] ⟨[tS 0 u1, tI 1 u0, tP 4 4, tV 6 (.int .u8 (bt u1 u0)), tP 7 7, tI 8 (wr.i64 (u0 + 1)), tB 109 true], [bC 4 GSign.z, bC 7 [aI 6, .str (u1.extract (u0 : Int).toNat ((wr.i64 (u0 + 1)) : Int).toNat), aI 0, aI u0, .bool false]], []⟩ (.cons (congrArg AV.bool h304) .nil) ?_
                  exact ⟨_, rfl, h⟩
                · rcases oif h with ⟨h305, h⟩ | ⟨h305, h⟩
                  · refine Wc.r2 [{}, {}, { re := some (.bool false) }, {}, {}, {}, { re := some (.bool true) }] ⟨[tS 0 u1, tI 1 u0, tP 4 4, tV 6 (.int .u8 (bt u1 u0)), tP 7 7, tI 8 (wr.i64 (u0 + 1)), tB 109 true], [bC 4 GSign.z, bC 7 [aI 6, .str (u1.extract (u0 : Int).toNat ((wr.i64 (u0 + 1)) : Int).toNat), aI 0, aI u0, .bool false]], []⟩ (.cons (congrArg AV.bool h304) (.cons (congrArg AV.bool h305) .nil)) ?_
                    exact ⟨_, rfl, h⟩
                  · rcases oif h with ⟨h306, h⟩ | ⟨h306, h⟩
                    · refine Wc.r2 [{}, {}, { re := some (.bool false) }, {}, {}, {}, { re := some (.bool false) }, {}, {}, {}, { re := some (.bool true) }] ⟨[tS 0 u1, tI 1 u0, tP 4 4, tV 6 (.int .u8 (bt u1 u0)), tP 7 7, tI 8 (wr.i64 (u0 + 1)), tB 109 true], [bC 4 GSign.z, bC 7 [aI 6, .str (u1.extract (u0 : Int).toNat ((wr.i64 (u0 + 1)) : Int).toNat), aI 0, aI u0, .bool false]], []⟩ (.cons (congrArg AV.bool h304) (.cons (congrArg AV.bool h305) (.cons (congrArg AV.bool h306) .nil))) ?_
                      exact ⟨_, rfl, h⟩
                    · rcases oif h with ⟨h307, h⟩ | ⟨h307, h⟩
                      · refine Wc.r2 [{}, {}, { re := some (.bool false) }, {}, {}, {}, { re := some (.bool false) }, {}, {}, {}, { re := some (.bool false) }, {}, {}, {}, { re := some (.bool true) }] ⟨[tS 0 u1, tI 1 u0, tP 4 4, tV 6 (.int .u8 (bt u1 u0)), tP 7 7, tI 8 (wr.i64 (u0 + 1)), tB 109 true], [bC 4 GSign.z, bC 7 [aI 6, .str (u1.extract (u0 : Int).toNat ((wr.i64 (u0 + 1)) : Int).toNat), aI 0, aI u0, .bool false]], []⟩ (.cons (congrArg AV.bool h304) (.cons (congrArg AV.bool h305) (.cons (congrArg AV.bool h306) (.cons (congrArg AV.bool h307) .nil)))) ?_
                        exact ⟨_, rfl, h⟩
                      · rcases oif h with ⟨h308, h⟩ | ⟨h308, h⟩
                        · refine Wc.r2 [{}, {}, { re := some (.bool false) }, {}, {}, {}, { re := some (.bool false) }, {}, {}, {}, { re := some (.bool false) }, {}, {}, {}, { re := some (.bool false) }, {}, {}, {}, { re := some (.bool true) }] ⟨[tS 0 u1, tI 1 u0, tP 4 4, tV 6 (.int .u8 (bt u1 u0)), tP 7 7, tI 8 (wr.i64 (u0 + 1)), tB 109 true], [bC 4 GSign.z, bC 7 [aI 6, .str (u1.extract (u0 : Int).toNat ((wr.i64 (u0 + 1)) : Int).toNat), aI 0, aI u0, .bool false]], []⟩ (.cons (congrArg AV.bool h304) (.cons (congrArg AV.bool h305) (.cons (congrArg AV.bool h306) (.cons (congrArg AV.bool h307) (.cons (congrArg AV.bool h308) .nil))))) ?_
                          exact ⟨_, rfl, h⟩
                        · refine Wc.r2 [{}, {}, { re := some (.bool false) }, {}, {}, {}, { re := some (.bool false) }, {}, {}, {}, { re := some (.bool false) }, {}, {}, {}, { re := some (.bool false) }, {}, {}, {}, { re := some (.bool false) }] ⟨[tS 0 u1, tI 1 u0, tP 4 4, tV 6 (.int .u8 (bt u1 u0)), tP 7 7, tI 8 (wr.i64 (u0 + 1)), tB 109 ((bt u1 u0) == 124)], [bC 4 GSign.z, bC 7 [aI 6, .str (u1.extract (u0 : Int).toNat ((wr.i64 (u0 + 1)) : Int).toNat), aI 0, aI u0, .bool false]], []⟩ (.cons (congrArg AV.bool h304) (.cons (congrArg AV.bool h305) (.cons (congrArg AV.bool h306) (.cons (congrArg AV.bool h307) (.cons (congrArg AV.bool h308) .nil))))) ?_
                          exact ⟨_, rfl, h⟩
              · rintro st ⟨u98, rfl, h⟩
                rcases oif h with ⟨h292, h⟩ | ⟨h292, h⟩
                · refine Wc.cT h292 ?_
                  refine Wc.r0 ⟨[tP 4 4, tP 7 7, tI 8 (wr.i64 (u0 + 1))], [bC 4 GSign.z, bC 7 [aI 4, .str (u1.extract (u0 : Int).toNat ((wr.i64 (u0 + 1)) : Int).toNat), aI 0, aI u0, .bool false]], []⟩ ?_
                  apply Wc.seq
                  refine Wc.r0 ⟨[tP 4 4, tI 5 (wr.i64 (u0 + 1))], [bC 4 [aI 4, .str (u1.extract (u0 : Int).toNat ((wr.i64 (u0 + 1)) : Int).toNat), aI 0, aI u0, .bool false]], []⟩ ?_
                  obtain rfl := Option.some.inj h; exact Wc.ret dn
                · refine Wc.cF h292 ?_
                  apply Wc.seq
                  obtain ⟨uca, h293, h⟩ := obind h
                  refine Wc.r2 [{}, {}, { r := some (.v (.bool uca) []) }] ⟨[tS 0 u1, tI 1 u0, tP 4 4, tV 6 (.int .u8 (bt u1 u0)), tP 7 7, tI 8 (wr.i64 (u0 + 1)), tB 133 uca], [bC 4 GSign.z, bC 7 [aI 6, .str (u1.extract (u0 : Int).toNat ((wr.i64 (u0 + 1)) : Int).toNat), aI 0, aI u0, .bool false]], []⟩ (.cons (cspec_l05End h293) .nil) ?_
                  rcases oif h with ⟨h294, h⟩ | ⟨h294, h⟩
                  · refine Wc.cT h294 ?_
                    refine Wc.r0 ⟨[tP 4 4, tP 7 7, tI 8 (wr.i64 (u0 + 1))], [bC 4 GSign.z, bC 7 [aI 5, .str (u1.extract (u0 : Int).toNat ((wr.i64 (u0 + 1)) : Int).toNat), aI 0, aI u0, .bool false]], []⟩ ?_
                    apply Wc.seq
                    refine Wc.r0 ⟨[tP 4 4, tI 5 (wr.i64 (u0 + 1))], [bC 4 [aI 5, .str (u1.extract (u0 : Int).toNat ((wr.i64 (u0 + 1)) : Int).toNat), aI 0, aI u0, .bool false]], []⟩ ?_
                    obtain rfl := Option.some.inj h; exact Wc.ret dn
                  · refine Wc.cF h294 ?_
                    apply Wc.seq
                    obtain ⟨ucb, h295, h⟩ := obind h
                    refine Wc.r2 [{}, { r := some (.v (.bool ucb) []) }] ⟨[tS 0 u1, tI 1 u0, tP 4 4, tP 7 7, tI 8 (wr.i64 (u0 + 1)), tB 138 ucb], [bC 4 GSign.z, bC 7 [aI 6, .str (u1.extract (u0 : Int).toNat ((wr.i64 (u0 + 1)) : Int).toNat), aI 0, aI u0, .bool false]], []⟩ (.cons (cspec_SymbolByte h295) .nil) ?_
                    rcases oif h with ⟨h296, h⟩ | ⟨h296, h⟩
                    · refine Wc.cT h296 ?_
                      apply Wc.seq
                      refine Wc.r0 ⟨[tS 0 u1, tI 1 u0, tP 4 4, tP 7 7, tI 8 (wr.i64 (u0 + 1)), tI 13 u0], [bC 4 GSign.z, bC 7 [aI 6, .str (u1.extract (u0 : Int).toNat ((wr.i64 (u0 + 1)) : Int).toNat), aI 0, aI u0, .bool false]], []⟩ ?_
                      obtain ⟨out5, h297, h⟩ := obind h
                      refine Wc.seqJ (fun st => ∃ (u1e : Int), out5 = .done u1e ∧ st = ⟨[tS 0 u1, tI 1 u0, tP 4 4, tP 7 7, tI 8 (wr.i64 (u0 + 1)), tI 13 u1e], [bC 4 GSign.z, bC 7 [aI 6, .str (u1.extract (u0 : Int).toNat ((wr.i64 (u0 + 1)) : Int).toNat), aI 0, aI u0, .bool false]], []⟩) ?_ ?_
                      · refine Wc.block ?_
                        refine Wc.loop (fun m st => ∃ (u1s : Int), st = ⟨[tS 0 u1, tI 1 u0, tP 4 4, tP 7 7, tI 8 (wr.i64 (u0 + 1)), tI 13 u1s], [bC 4 GSign.z, bC 7 [aI 6, .str (u1.extract (u0 : Int).toNat ((wr.i64 (u0 + 1)) : Int).toNat), aI 0, aI u0, .bool false]], []⟩ ∧ pspec_l05Sign_L5 k u1 m u1s = some out5) ?_ k ⟨_, rfl, h297⟩
                        rintro m st ⟨u1s, rfl, h297⟩
                        cases m with
                        | zero => exact (onone h297).elim
                        | succ m =>
                          apply Wc.seq
                          apply Wc.seq
                          rcases oif h297 with ⟨h298, h297⟩ | ⟨h298, h297⟩
                          · obtain ⟨h299, h297⟩ := oguard h297
                            obtain ⟨uc9, h300, h297⟩ := obind h297
                            refine Wc.r2 [{}, {}, {}, {}, { re := some (.bool true) }, {}, {}, {}, { r := some (.v (.bool uc9) []) }] ⟨[tS 0 u1, tI 1 u0, tP 4 4, tP 7 7, tI 8 (wr.i64 (u0 + 1)), tI 13 u1s, tB 151 uc9], [bC 4 GSign.z, bC 7 [aI 6, .str (u1.extract (u0 : Int).toNat ((wr.i64 (u0 + 1)) : Int).toNat), aI 0, aI u0, .bool false]], []⟩ (.cons (congrArg AV.bool h298) (.cons h299 (.cons (cspec_SymbolByte h300) .nil))) ?_
                            rcases oif h297 with ⟨h301, h297⟩ | ⟨h301, h297⟩
                            · refine Wc.cT h301 ?_
                              refine Wc.fx [] ⟨[tS 0 u1, tI 1 u0, tP 4 4, tP 7 7, tI 8 (wr.i64 (u0 + 1)), tI 13 u1s], [bC 4 GSign.z, bC 7 [aI 6, .str (u1.extract (u0 : Int).toNat ((wr.i64 (u0 + 1)) : Int).toNat), aI 0, aI u0, .bool false]], []⟩ ?_
                              refine Wc.skip ?_
                              refine Wc.block ?_
                              refine Wc.r0 ⟨[tS 0 u1, tI 1 u0, tP 4 4, tP 7 7, tI 8 (wr.i64 (u0 + 1)), tI 13 (wr.i64 (u1s + 1))], [bC 4 GSign.z, bC 7 [aI 6, .str (u1.extract (u0 : Int).toNat ((wr.i64 (u0 + 1)) : Int).toNat), aI 0, aI u0, .bool false]], []⟩ ?_
                              exact ⟨_, Nat.lt_succ_self _, _, rfl, h297⟩
                            · refine Wc.cF h301 ?_
                              refine Wc.fx [] ⟨[tS 0 u1, tI 1 u0, tP 4 4, tP 7 7, tI 8 (wr.i64 (u0 + 1)), tI 13 u1s], [bC 4 GSign.z, bC 7 [aI 6, .str (u1.extract (u0 : Int).toNat ((wr.i64 (u0 + 1)) : Int).toNat), aI 0, aI u0, .bool false]], []⟩ ?_
                              refine Wc.exit ?_
                              obtain rfl := Option.some.inj h297
                              exact ⟨_, rfl, rfl⟩
                          · refine Wc.r2 [{}, {}, {}, {}, { re := some (.bool false) }] ⟨[tS 0 u1, tI 1 u0, tP 4 4, tP 7 7, tI 8 (wr.i64 (u0 + 1)), tI 13 u1s, tB 151 false], [bC 4 GSign.z, bC 7 [aI 6, .str (u1.extract (u0 : Int).toNat ((wr.i64 (u0 + 1)) : Int).toNat), aI 0, aI u0, .bool false]], []⟩ (.cons (congrArg AV.bool h298) .nil) ?_
                            refine Wc.cF rfl ?_
                            refine Wc.fx [] ⟨[tS 0 u1, tI 1 u0, tP 4 4, tP 7 7, tI 8 (wr.i64 (u0 + 1)), tI 13 u1s], [bC 4 GSign.z, bC 7 [aI 6, .str (u1.extract (u0 : Int).toNat ((wr.i64 (u0 + 1)) : Int).toNat), aI 0, aI u0, .bool false]], []⟩ ?_
                            refine Wc.exit ?_
                            obtain rfl := Option.some.inj h297
                            exact ⟨_, rfl, rfl⟩
                      · rintro st ⟨u1e, rfl, rfl⟩
                        apply Wc.seq
                        refine Wc.r0 ⟨[tS 0 u1, tI 1 u0, tP 4 4, tP 7 7, tI 8 (wr.i64 (u0 + 1)), tI 13 u1e, tB 157 (decide ((wr.i64 (u1e - u0)) ≤ 20))], [bC 4 GSign.z, bC 7 [aI 6, .str (u1.extract (u0 : Int).toNat ((wr.i64 (u0 + 1)) : Int).toNat), aI 0, aI u0, .bool false]], []⟩ ?_
                        rcases oif h with ⟨h302, h⟩ | ⟨h302, h⟩
                        · refine Wc.cT h302 ?_
                          apply Wc.seq
                          refine Wc.r0 ⟨[tS 0 u1, tI 1 u0, tP 4 4, tP 7 7, tI 13 u1e], [bC 4 GSign.z, bC 7 [aI 1, .str (u1.extract (u0 : Int).toNat ((wr.i64 (u0 + 1)) : Int).toNat), aI 0, aI u0, .bool false]], []⟩ ?_
                          apply Wc.seq
                          obtain ⟨h303, h⟩ := oguard h
                          refine Wc.r2 [] ⟨[tP 4 4, tP 7 7, tI 13 u1e], [bC 4 GSign.z, bC 7 [aI 1, .str (u1.extract (u0 : Int).toNat (u1e : Int).toNat), aI 0, aI u0, .bool false]], []⟩ (.cons h303 .nil) ?_
                          refine Wc.r0 ⟨[tP 4 4, tP 7 7, tI 8 u1e], [bC 4 GSign.z, bC 7 [aI 1, .str (u1.extract (u0 : Int).toNat (u1e : Int).toNat), aI 0, aI u0, .bool false]], []⟩ ?_
                          apply Wc.seq
                          refine Wc.r0 ⟨[tP 4 4, tI 5 u1e], [bC 4 [aI 1, .str (u1.extract (u0 : Int).toNat (u1e : Int).toNat), aI 0, aI u0, .bool false]], []⟩ ?_
                          obtain rfl := Option.some.inj h; exact Wc.ret dn
                        · refine Wc.cF h302 ?_
                          refine Wc.fx [] ⟨[tP 4 4, tP 7 7, tI 8 (wr.i64 (u0 + 1))], [bC 4 GSign.z, bC 7 [aI 6, .str (u1.extract (u0 : Int).toNat ((wr.i64 (u0 + 1)) : Int).toNat), aI 0, aI u0, .bool false]], []⟩ ?_
                          refine Wc.skip ?_
                          apply Wc.seq
                          refine Wc.r0 ⟨[tP 4 4, tI 5 (wr.i64 (u0 + 1))], [bC 4 [aI 6, .str (u1.extract (u0 : Int).toNat ((wr.i64 (u0 + 1)) : Int).toNat), aI 0, aI u0, .bool false]], []⟩ ?_
                          obtain rfl := Option.some.inj h; exact Wc.ret dn
                    · refine Wc.cF h296 ?_
                      refine Wc.fx [] ⟨[tP 4 4, tP 7 7, tI 8 (wr.i64 (u0 + 1))], [bC 4 GSign.z, bC 7 [aI 6, .str (u1.extract (u0 : Int).toNat ((wr.i64 (u0 + 1)) : Int).toNat), aI 0, aI u0, .bool false]], []⟩ ?_
                      refine Wc.skip ?_
                      apply Wc.seq
                      refine Wc.r0 ⟨[tP 4 4, tI 5 (wr.i64 (u0 + 1))], [bC 4 [aI 6, .str (u1.extract (u0 : Int).toNat ((wr.i64 (u0 + 1)) : Int).toNat), aI 0, aI u0, .bool false]], []⟩ ?_
                      obtain rfl := Option.some.inj h; exact Wc.ret dn

def pspec_SignsOf_L2 (k : Nat) (ud : ByteArray) : Nat → Int → Option (Out ((List GSign) × Bool) Int)
  | 0, _ => none
  | m + 1, u1f =>
    if (decide (u1f < (ud.size : Int))) = true then
      if 0 ≤ u1f ∧ (u1f).toNat < ud.size then
        if ((bt ud u1f) != 10) = true then
          pspec_SignsOf_L2 k ud m (wr.i64 (u1f + 1))
        else
          some (.done u1f)
      else none
    else
      some (.done u1f)
def pspec_SignsOf_L1 (k : Nat) (ud : ByteArray) : Nat → (List GSign) → Int → Option (Out ((List GSign) × Bool) (List GSign))
  | 0, _, _ => none
  | m + 1, v1, u00 =>
    if (decide (u00 < (ud.size : Int))) = true then
      if 0 ≤ u00 ∧ (u00).toNat < ud.size then
        (pspec_l05Blank k (bt ud u00)).bind fun ucg =>
        if ucg = true then
          pspec_SignsOf_L1 k ud m v1 (wr.i64 (u00 + 1))
        else
          if 0 ≤ u00 ∧ (u00).toNat < ud.size then
            if ((bt ud u00) == 37) = true then
              (pspec_SignsOf_L2 k ud k u00).bind fun out2 => match out2 with
              | .ret r => some (.ret r)
              | .done u9b =>
                pspec_SignsOf_L1 k ud m v1 u9b
            else
              (pspec_l05Sign k ud u00).bind fun u4 =>
              if (decide (u4.2 < (ud.size : Int))) = true then
                if 0 ≤ u4.2 ∧ (u4.2).toNat < ud.size then
                  if v1.length + [GSign.mk u4.1.gKind u4.1.gText u4.1.gNum u4.1.gAt ((bt ud u4.2) == 40)].length ≤ 1073741824 then
                    pspec_SignsOf_L1 k ud m (v1 ++ [GSign.mk u4.1.gKind u4.1.gText u4.1.gNum u4.1.gAt ((bt ud u4.2) == 40)]) u4.2
                  else none
                else none
              else
                if v1.length + [GSign.mk u4.1.gKind u4.1.gText u4.1.gNum u4.1.gAt false].length ≤ 1073741824 then
                  pspec_SignsOf_L1 k ud m (v1 ++ [GSign.mk u4.1.gKind u4.1.gText u4.1.gNum u4.1.gAt false]) u4.2
                else none
          else none
      else none
    else
      some (.done v1)
def pspec_SignsOf (k : Nat) (ud : ByteArray) : Option ((List GSign) × Bool) :=
  if (decide ((ud.size : Int) > 3000)) = true then
    some ([], false)
  else
    (pspec_SignsOf_L1 k ud k [] 0).bind fun out1 => match out1 with
    | .ret r => some r
    | .done u6v =>
      some (u6v, true)
set_option maxHeartbeats 4000000 in
theorem cspec_SignsOf {k : Nat} {ud : ByteArray} {r : (List GSign) × Bool} (h : pspec_SignsOf k ud = some r) : FnO Tryz.prog 71 [.v (.str ud) []] (.v (.tup [.sl (List.map GSign.c r.1), .bool r.2]) [(0, .app 102)]) [] := by
  refine FnO.o2 Tryz.func71 (rfl : Tryz.f71.body = some _) ?_
  intro w0 X0 Fin pv0 pb gt
  unfold pspec_SignsOf at h
  apply Wc.seq
  refine Wc.r0 ⟨[tS 0 ud], [], []⟩ ?_
  apply Wc.seq
  refine Wc.r2 [{ c := some (List.map GSign.c []) }, { tk := [8] }] ⟨[tS 0 ud, (4, (.v (.sl (List.map GSign.c [])), [(0, .app 102)]))], [], []⟩ (.cons (cl_nil GSign.c) .nil) ?_
  apply Wc.seq
  apply Wc.seq
  refine Wc.r0 ⟨[tS 0 ud, (4, (.v (.sl (List.map GSign.c [])), [(0, .app 102)])), tB 11 (decide ((ud.size : Int) > 3000))], [], []⟩ ?_
  rcases oif h with ⟨h330, h⟩ | ⟨h330, h⟩
  · refine Wc.cT h330 ?_
    apply Wc.seq
    refine Wc.r1 [{ tk := [4] }, { tk := [12] }] ⟨[(2, (.v (.sl (List.map GSign.c [])), [(0, .app 102)])), tB 3 false], [], []⟩ ?_
    obtain rfl := Option.some.inj h; exact Wc.ret dn
  · refine Wc.cF h330 ?_
    refine Wc.fx [] ⟨[tS 0 ud, (4, (.v (.sl (List.map GSign.c [])), [(0, .app 102)]))], [], []⟩ ?_
    refine Wc.skip ?_
    apply Wc.seq
    refine Wc.r0 ⟨[tS 0 ud, (4, (.v (.sl (List.map GSign.c [])), [(0, .app 102)])), tI 5 0], [], []⟩ ?_
    obtain ⟨out1, h331, h⟩ := obind h
    refine Wc.seqJ (fun st => ∃ (u6v : List GSign), out1 = .done u6v ∧ st = ⟨[(4, (.v (.sl (List.map GSign.c u6v)), [(0, .app 102)]))], [], []⟩) ?_ ?_
    · refine Wc.block ?_
      refine Wc.loop (fun m st => ∃ (v1 : List GSign) (u00 : Int), st = ⟨[tS 0 ud, (4, (.v (.sl (List.map GSign.c v1)), [(0, .app 102)])), tI 5 u00], [], []⟩ ∧ pspec_SignsOf_L1 k ud m v1 u00 = some out1) ?_ k ⟨_, _, rfl, h331⟩
      rintro m st ⟨v1, u00, rfl, h331⟩
      cases m with
      | zero => exact (onone h331).elim
      | succ m =>
        apply Wc.seq
        apply Wc.seq
        refine Wc.r0 ⟨[tS 0 ud, (4, (.v (.sl (List.map GSign.c v1)), [(0, .app 102)])), tI 5 u00, tB 16 (decide (u00 < (ud.size : Int)))], [], []⟩ ?_
        rcases oif h331 with ⟨h332, h331⟩ | ⟨h332, h331⟩
        · refine Wc.cT h332 ?_
          refine Wc.fx [] ⟨[tS 0 ud, (4, (.v (.sl (List.map GSign.c v1)), [(0, .app 102)])), tI 5 u00], [], []⟩ ?_
          refine Wc.skip ?_
          refine Wc.block ?_
          apply Wc.seq
          apply Wc.seq
          obtain ⟨h333, h331⟩ := oguard h331
          obtain ⟨ucg, h334, h331⟩ := obind h331
          refine Wc.r2 [{}, {}, {}, { r := some (.v (.bool ucg) []) }] ⟨[tS 0 ud, (4, (.v (.sl (List.map GSign.c v1)), [(0, .app 102)])), tI 5 u00, tB 20 ucg], [], []⟩ (.cons h333 (.cons (cspec_l05Blank h334) .nil)) ?_
          rcases oif h331 with ⟨h335, h331⟩ | ⟨h335, h331⟩
          · refine Wc.cT h335 ?_
            apply Wc.seq
            refine Wc.r0 ⟨[tS 0 ud, (4, (.v (.sl (List.map GSign.c v1)), [(0, .app 102)])), tI 5 (wr.i64 (u00 + 1))], [], []⟩ ?_
            refine Wc.exit ?_
            exact ⟨_, Nat.lt_succ_self _, _, _, rfl, h331⟩
          · refine Wc.cF h335 ?_
            refine Wc.fx [] ⟨[tS 0 ud, (4, (.v (.sl (List.map GSign.c v1)), [(0, .app 102)])), tI 5 u00], [], []⟩ ?_
            refine Wc.skip ?_
            apply Wc.seq
            apply Wc.seq
            obtain ⟨h336, h331⟩ := oguard h331
            refine Wc.r2 [] ⟨[tS 0 ud, (4, (.v (.sl (List.map GSign.c v1)), [(0, .app 102)])), tI 5 u00, tB 26 ((bt ud u00) == 37)], [], []⟩ (.cons h336 .nil) ?_
            rcases oif h331 with ⟨h337, h331⟩ | ⟨h337, h331⟩
            · refine Wc.cT h337 ?_
              obtain ⟨out2, h338, h331⟩ := obind h331
              refine Wc.seqJ (fun st => ∃ (u9b : Int), out2 = .done u9b ∧ st = ⟨[tS 0 ud, (4, (.v (.sl (List.map GSign.c v1)), [(0, .app 102)])), tI 5 u9b], [], []⟩) ?_ ?_
              · refine Wc.block ?_
                refine Wc.fx [] ⟨[tS 0 ud, (4, (.v (.sl (List.map GSign.c v1)), [(0, .app 102)])), tI 5 u00], [], []⟩ ?_
                refine Wc.loop (fun m st => ∃ (u1f : Int), st = ⟨[tS 0 ud, (4, (.v (.sl (List.map GSign.c v1)), [(0, .app 102)])), tI 5 u1f], [], []⟩ ∧ pspec_SignsOf_L2 k ud m u1f = some out2) ?_ k ⟨_, rfl, h338⟩
                rintro m st ⟨u1f, rfl, h338⟩
                cases m with
                | zero => exact (onone h338).elim
                | succ m =>
                  apply Wc.seq
                  apply Wc.seq
                  rcases oif h338 with ⟨h339, h338⟩ | ⟨h339, h338⟩
                  · obtain ⟨h340, h338⟩ := oguard h338
                    refine Wc.r2 [{}, {}, {}, {}, { re := some (.bool true) }] ⟨[tS 0 ud, (4, (.v (.sl (List.map GSign.c v1)), [(0, .app 102)])), tI 5 u1f, tB 36 ((bt ud u1f) != 10)], [], []⟩ (.cons (congrArg AV.bool h339) (.cons h340 .nil)) ?_
                    rcases oif h338 with ⟨h341, h338⟩ | ⟨h341, h338⟩
                    · refine Wc.cT h341 ?_
                      refine Wc.fx [] ⟨[tS 0 ud, (4, (.v (.sl (List.map GSign.c v1)), [(0, .app 102)])), tI 5 u1f], [], []⟩ ?_
                      refine Wc.skip ?_
                      refine Wc.block ?_
                      refine Wc.r0 ⟨[tS 0 ud, (4, (.v (.sl (List.map GSign.c v1)), [(0, .app 102)])), tI 5 (wr.i64 (u1f + 1))], [], []⟩ ?_
                      exact ⟨_, Nat.lt_succ_self _, _, rfl, h338⟩
                    · refine Wc.cF h341 ?_
                      refine Wc.fx [] ⟨[tS 0 ud, (4, (.v (.sl (List.map GSign.c v1)), [(0, .app 102)])), tI 5 u1f], [], []⟩ ?_
                      refine Wc.exit ?_
                      obtain rfl := Option.some.inj h338
                      exact ⟨_, rfl, rfl⟩
                  · refine Wc.r2 [{}, {}, {}, {}, { re := some (.bool false) }] ⟨[tS 0 ud, (4, (.v (.sl (List.map GSign.c v1)), [(0, .app 102)])), tI 5 u1f, tB 36 false], [], []⟩ (.cons (congrArg AV.bool h339) .nil) ?_
                    refine Wc.cF rfl ?_
                    refine Wc.fx [] ⟨[tS 0 ud, (4, (.v (.sl (List.map GSign.c v1)), [(0, .app 102)])), tI 5 u1f], [], []⟩ ?_
                    refine Wc.exit ?_
                    obtain rfl := Option.some.inj h338
                    exact ⟨_, rfl, rfl⟩
              · rintro st ⟨u9b, rfl, rfl⟩
                refine Wc.exit ?_
                exact ⟨_, Nat.lt_succ_self _, _, _, rfl, h331⟩
            · refine Wc.cF h337 ?_
              refine Wc.fx [] ⟨[tS 0 ud, (4, (.v (.sl (List.map GSign.c v1)), [(0, .app 102)])), tI 5 u00], [], []⟩ ?_
              refine Wc.skip ?_
              apply Wc.seq
              obtain ⟨u4, h342, h331⟩ := obind h331
              refine Wc.r2 [{}, {}, { r := some (.v (.tup [.agg (GSign.q u4.1), aI u4.2]) []) }] ⟨[tS 0 ud, (4, (.v (.sl (List.map GSign.c v1)), [(0, .app 102)])), tP 6 6, tI 7 u4.2], [bC 6 (GSign.q u4.1)], []⟩ (.cons (cspec_l05Sign h342) .nil) ?_
              apply Wc.seq
              rcases oif h331 with ⟨h343, h331⟩ | ⟨h343, h331⟩
              · obtain ⟨h344, h331⟩ := oguard h331
                refine Wc.r2 [{}, {}, {}, {}, { re := some (.bool true) }] ⟨[tS 0 ud, (4, (.v (.sl (List.map GSign.c v1)), [(0, .app 102)])), tP 6 6, tI 7 u4.2], [bC 6 [aI u4.1.gKind, .str u4.1.gText, aI u4.1.gNum, aI u4.1.gAt, .bool ((bt ud u4.2) == 40)]], []⟩ (.cons (congrArg AV.bool h343) (.cons h344 .nil)) ?_
                apply Wc.seq
                obtain ⟨h345, h331⟩ := oguard h331
                refine Wc.r2 [{ tk := [4] }, {}, { c := some (List.map GSign.c [GSign.mk u4.1.gKind u4.1.gText u4.1.gNum u4.1.gAt ((bt ud u4.2) == 40)]) }, { c := some (List.map GSign.c (v1 ++ [GSign.mk u4.1.gKind u4.1.gText u4.1.gNum u4.1.gAt ((bt ud u4.2) == 40)])), tk := [56] }, { tk := [59] }] ⟨[tS 0 ud, (4, (.v (.sl (List.map GSign.c (v1 ++ [GSign.mk u4.1.gKind u4.1.gText u4.1.gNum u4.1.gAt ((bt ud u4.2) == 40)]))), [(0, .app 102)])), tI 7 u4.2], [], []⟩ (.cons (cl_cons (c := GSign.c) (x := GSign.mk u4.1.gKind u4.1.gText u4.1.gNum u4.1.gAt ((bt ud u4.2) == 40)) (GSign.c_eq (GSign.mk u4.1.gKind u4.1.gText u4.1.gNum u4.1.gAt ((bt ud u4.2) == 40))) (cl_nil GSign.c)) (.cons (app_re2 GSign.c v1 [GSign.mk u4.1.gKind u4.1.gText u4.1.gNum u4.1.gAt ((bt ud u4.2) == 40)]) (.cons (app_leaf (c := GSign.c) (ys := [GSign.mk u4.1.gKind u4.1.gText u4.1.gNum u4.1.gAt ((bt ud u4.2) == 40)]) GSign.c_leaf) (.cons (app_obl2 (c := GSign.c) (xs := v1) (ys := [GSign.mk u4.1.gKind u4.1.gText u4.1.gNum u4.1.gAt ((bt ud u4.2) == 40)]) GSign.c_len h345) .nil)))) ?_
                refine Wc.r0 ⟨[tS 0 ud, (4, (.v (.sl (List.map GSign.c (v1 ++ [GSign.mk u4.1.gKind u4.1.gText u4.1.gNum u4.1.gAt ((bt ud u4.2) == 40)]))), [(0, .app 102)])), tI 5 u4.2], [], []⟩ ?_
                exact ⟨_, Nat.lt_succ_self _, _, _, rfl, h331⟩
              · refine Wc.r2 [{}, {}, {}, {}, { re := some (.bool false) }] ⟨[tS 0 ud, (4, (.v (.sl (List.map GSign.c v1)), [(0, .app 102)])), tP 6 6, tI 7 u4.2], [bC 6 [aI u4.1.gKind, .str u4.1.gText, aI u4.1.gNum, aI u4.1.gAt, .bool false]], []⟩ (.cons (congrArg AV.bool h343) .nil) ?_
                apply Wc.seq
                obtain ⟨h346, h331⟩ := oguard h331
                refine Wc.r2 [{ tk := [4] }, {}, { c := some (List.map GSign.c [GSign.mk u4.1.gKind u4.1.gText u4.1.gNum u4.1.gAt false]) }, { c := some (List.map GSign.c (v1 ++ [GSign.mk u4.1.gKind u4.1.gText u4.1.gNum u4.1.gAt false])), tk := [56] }, { tk := [59] }] ⟨[tS 0 ud, (4, (.v (.sl (List.map GSign.c (v1 ++ [GSign.mk u4.1.gKind u4.1.gText u4.1.gNum u4.1.gAt false]))), [(0, .app 102)])), tI 7 u4.2], [], []⟩ (.cons (cl_cons (c := GSign.c) (x := GSign.mk u4.1.gKind u4.1.gText u4.1.gNum u4.1.gAt false) (GSign.c_eq (GSign.mk u4.1.gKind u4.1.gText u4.1.gNum u4.1.gAt false)) (cl_nil GSign.c)) (.cons (app_re2 GSign.c v1 [GSign.mk u4.1.gKind u4.1.gText u4.1.gNum u4.1.gAt false]) (.cons (app_leaf (c := GSign.c) (ys := [GSign.mk u4.1.gKind u4.1.gText u4.1.gNum u4.1.gAt false]) GSign.c_leaf) (.cons (app_obl2 (c := GSign.c) (xs := v1) (ys := [GSign.mk u4.1.gKind u4.1.gText u4.1.gNum u4.1.gAt false]) GSign.c_len h346) .nil)))) ?_
                refine Wc.r0 ⟨[tS 0 ud, (4, (.v (.sl (List.map GSign.c (v1 ++ [GSign.mk u4.1.gKind u4.1.gText u4.1.gNum u4.1.gAt false]))), [(0, .app 102)])), tI 5 u4.2], [], []⟩ ?_
                exact ⟨_, Nat.lt_succ_self _, _, _, rfl, h331⟩
        · refine Wc.cF h332 ?_
          refine Wc.fx [] ⟨[(4, (.v (.sl (List.map GSign.c v1)), [(0, .app 102)]))], [], []⟩ ?_
          refine Wc.exit ?_
          obtain rfl := Option.some.inj h331
          exact ⟨_, rfl, rfl⟩
    · rintro st ⟨u6v, rfl, rfl⟩
      apply Wc.seq
      refine Wc.r1 [{ tk := [4] }, { tk := [61] }] ⟨[(2, (.v (.sl (List.map GSign.c u6v)), [(0, .app 102)])), tB 3 true], [], []⟩ ?_
      obtain rfl := Option.some.inj h; exact Wc.ret dn

def pspec_l06Behind_L2 (k : Nat) (vc : List GSign) : Nat → Int → Option (Out Int Unit)
  | 0, _ => none
  | m + 1, u2i =>
    if (decide (u2i < (vc.length : Int))) = true then
      (at' vc (wr.i64 ((wr.i64 (u2i + 1)) - 1))).bind fun u6w =>
      if (u6w.gKind == 5) = true then
        some (.ret (wr.i64 (u2i + 1)))
      else
        pspec_l06Behind_L2 k vc m (wr.i64 (u2i + 1))
    else
      some (.done ())
def pspec_l06Behind_J1 (k : Nat) (vc : List GSign) (u9c : Int) : Option Int :=
  (pspec_l06Behind_L2 k vc k u9c).bind fun out2 => match out2 with
  | .ret r => some r
  | .done () =>
    some (vc.length : Int)
def pspec_l06Behind (k : Nat) (vc : List GSign) (u4w : Int) : Option Int :=
  if (decide (u4w < 0)) = true then
    pspec_l06Behind_J1 k vc 0
  else
    pspec_l06Behind_J1 k vc u4w
theorem cspec_l06Behind {k : Nat} {vc : List GSign} {u4w : Int} {r : Int} (h : pspec_l06Behind k vc u4w = some r) : FnO Tryz.prog 92 [.v (.sl (List.map GSign.c vc)) [], .v (aI u4w) []] (.v (aI r) []) [] := by
  refine FnO.o2 Tryz.func92 (rfl : Tryz.f92.body = some _) ?_
  intro w0 X0 Fin pv0 pb gt
  unfold pspec_l06Behind at h
  apply Wc.seq
  refine Wc.r0 ⟨[tV 0 (.sl (List.map GSign.c vc)), tI 1 u4w], [], []⟩ ?_
  refine Wc.seqJ (fun st => ∃ (u9c : Int), st = ⟨[tV 0 (.sl (List.map GSign.c vc)), tI 1 u9c], [], []⟩ ∧ pspec_l06Behind_J1 k vc u9c = some r) ?_ ?_
  · apply Wc.seq
    refine Wc.r0 ⟨[tV 0 (.sl (List.map GSign.c vc)), tI 1 u4w, tB 6 (decide (u4w < 0))], [], []⟩ ?_
    rcases oif h with ⟨h351, h⟩ | ⟨h351, h⟩
    · refine Wc.cT h351 ?_
      refine Wc.r0 ⟨[tV 0 (.sl (List.map GSign.c vc)), tI 1 0], [], []⟩ ?_
      exact ⟨_, rfl, h⟩
    · refine Wc.cF h351 ?_
      refine Wc.fx [] ⟨[tV 0 (.sl (List.map GSign.c vc)), tI 1 u4w], [], []⟩ ?_
      refine Wc.skip ?_
      exact ⟨_, rfl, h⟩
  · rintro st ⟨u9c, rfl, h⟩
    obtain ⟨out2, h347, h⟩ := obind h
    refine Wc.seqJ (fun st => out2 = .done () ∧ st = ⟨[tV 0 (.sl (List.map GSign.c vc))], [], []⟩) ?_ ?_
    · refine Wc.block ?_
      refine Wc.loop (fun m st => ∃ (u2i : Int), st = ⟨[tV 0 (.sl (List.map GSign.c vc)), tI 1 u2i], [], []⟩ ∧ pspec_l06Behind_L2 k vc m u2i = some out2) ?_ k ⟨_, rfl, h347⟩
      rintro m st ⟨u2i, rfl, h347⟩
      cases m with
      | zero => exact (onone h347).elim
      | succ m =>
        apply Wc.seq
        apply Wc.seq
        refine Wc.r2 [{}, {}, { v := some (aI (vc.length : Int)) }] ⟨[tV 0 (.sl (List.map GSign.c vc)), tI 1 u2i, tB 10 (decide (u2i < (vc.length : Int)))], [], []⟩ (.cons (len_obl GSign.c vc) .nil) ?_
        rcases oif h347 with ⟨h348, h347⟩ | ⟨h348, h347⟩
        · refine Wc.cT h348 ?_
          refine Wc.fx [] ⟨[tV 0 (.sl (List.map GSign.c vc)), tI 1 u2i], [], []⟩ ?_
          refine Wc.skip ?_
          refine Wc.block ?_
          apply Wc.seq
          refine Wc.r0 ⟨[tV 0 (.sl (List.map GSign.c vc)), tI 1 (wr.i64 (u2i + 1))], [], []⟩ ?_
          apply Wc.seq
          obtain ⟨u6w, h349, h347⟩ := obind h347
          refine Wc.r2 [{}, {}, {}, { v := some (.vptr (GSign.q u6w)) }] ⟨[tV 0 (.sl (List.map GSign.c vc)), tI 1 (wr.i64 (u2i + 1)), tB 19 (u6w.gKind == 5)], [], []⟩ (.cons (at_obl (c := GSign.c) (GSign.c_eq u6w) GSign.c_len h349) (.cons (len_ok 1 (GSign.q u6w)) .nil)) ?_
          rcases oif h347 with ⟨h350, h347⟩ | ⟨h350, h347⟩
          · refine Wc.cT h350 ?_
            apply Wc.seq
            refine Wc.r0 ⟨[tI 4 (wr.i64 (u2i + 1))], [], []⟩ ?_
            refine Wc.ret ?_
            obtain rfl := Option.some.inj h347
            obtain rfl := Option.some.inj h
            exact ⟨.inl rfl, by kernel_rfl, by kernel_rfl⟩
          · refine Wc.cF h350 ?_
            refine Wc.fx [] ⟨[tV 0 (.sl (List.map GSign.c vc)), tI 1 (wr.i64 (u2i + 1))], [], []⟩ ?_
            refine Wc.skip ?_
            exact ⟨_, Nat.lt_succ_self _, _, rfl, h347⟩
        · refine Wc.cF h348 ?_
          refine Wc.fx [] ⟨[tV 0 (.sl (List.map GSign.c vc))], [], []⟩ ?_
          refine Wc.exit ?_
          obtain rfl := Option.some.inj h347
          exact ⟨rfl, rfl⟩
    · rintro st ⟨rfl, rfl⟩
      apply Wc.seq
      refine Wc.r2 [{}, { v := some (aI (vc.length : Int)) }] ⟨[tI 4 (vc.length : Int)], [], []⟩ (.cons (len_obl GSign.c vc) .nil) ?_
      obtain rfl := Option.some.inj h; exact Wc.ret dn

def pspec_l03Two (k : Nat) (u6x : ByteArray) (u4x : GTerm) (u4y : GTerm) : Option GTerm :=
  some (GTerm.mk 4 u6x 0 [u4x, u4y])
theorem cspec_l03Two {k : Nat} {u6x : ByteArray} {u4x : GTerm} {u4y : GTerm} {r : GTerm} (h : pspec_l03Two k u6x u4x u4y = some r) : FnO Tryz.prog 38 [.v (.str u6x) [], .v (.agg (GTerm.q u4x)) [], .v (.agg (GTerm.q u4y)) []] (.v (.agg (GTerm.q r)) [(3, .app 31)]) [] := by
  refine FnO.o2 Tryz.func38 (rfl : Tryz.f38.body = some _) ?_
  intro w0 X0 Fin pv0 pb gt
  unfold pspec_l03Two at h
  apply Wc.seq
  refine Wc.r0 ⟨[tS 0 u6x, tP 4 4, tP 5 5, tP 6 6], [bC 4 (GTerm.q u4x), bC 5 (GTerm.q u4y), (6, .cells GTerm.z [(3, .app 31)])], []⟩ ?_
  apply Wc.seq
  refine Wc.r2 [{}, {}, {}, { c := some (List.map GTerm.c [u4x, u4y]) }, { tk := [10] }, { tk := [11] }] ⟨[tP 6 6], [(6, .cells [aI 4, .str u6x, aI 0, .sl (List.map GTerm.c [u4x, u4y])] [(3, .app 31)])], []⟩ (.cons (cl_cons (c := GTerm.c) (x := u4x) (GTerm.c_eq u4x) (cl_cons (c := GTerm.c) (x := u4y) (GTerm.c_eq u4y) (cl_nil GTerm.c))) .nil) ?_
  obtain rfl := Option.some.inj h; exact Wc.ret dn

def pspec_l06Read_is (k : Nat) (ui : GL06Read) (u9d : Int) (u60 : ByteArray) : Option (GL06Read × Bool) :=
  if (!ui.gBad) = true then
    if (decide (ui.gAt < (ui.gList.length : Int))) = true then
      (at' ui.gList ui.gAt).bind fun u44 =>
      if (u44.gKind == u9d) = true then
        if (sEq u60 (bs [])) = true then
          some (ui, true)
        else
          (at' ui.gList ui.gAt).bind fun u4z =>
          some (ui, sEq u4z.gText u60)
      else
        some (ui, false)
    else
      some (ui, false)
  else
    some (ui, false)
theorem cspec_l06Read_is {k : Nat} {ui : GL06Read} {u9d : Int} {u60 : ByteArray} {r : GL06Read × Bool} (h : pspec_l06Read_is k ui u9d u60 = some r) : FnO Tryz.prog 95 [.p (GL06Read.k2 ui) (GL06Read.h4_9f ui), .v (aI u9d) [], .v (.str u60) []] (.v (.bool r.2) []) [(0, .p (GL06Read.k2 r.1) (GL06Read.h4_9f r.1))] := by
  refine FnO.o2 Tryz.func95 (rfl : Tryz.f95.body = some _) ?_
  intro w0 X0 Fin pv0 pb gt
  unfold pspec_l06Read_is at h
  apply Wc.seq
  refine Wc.r0 ⟨[tP 0 1000000, tI 1 u9d, tS 2 u60], [(1000000, .cells (GL06Read.k2 ui) (GL06Read.h4_9f ui))], []⟩ ?_
  apply Wc.seq
  rcases oif h with ⟨h352, h⟩ | ⟨h352, h⟩
  · rcases oif h with ⟨h353, h⟩ | ⟨h353, h⟩
    · obtain ⟨u44, h354, h⟩ := obind h
      rcases oif h with ⟨h355, h⟩ | ⟨h355, h⟩
      · rcases oif h with ⟨h356, h⟩ | ⟨h356, h⟩
        · refine Wc.draw hmix [{}, {}, {}, {}, {}, { re := some (.bool true) }, {}, {}, {}, {}, {}, {}, {}, {}, { v := some (aI (ui.gList.length : Int)) }, {}, {}, { re := some (.bool true) }, {}, {}, {}, {}, {}, {}, {}, {}, { v := some (.vptr (GSign.q u44)) }, {}, {}, {}, {}, {}, { re := some (.bool true) }, {}, {}, { re := some (.bool true) }] [] [6] [1000000] [] ⟨[tB 6 true], [(1000000, .cells (GL06Read.k2 ui) (GL06Read.h4_9f ui))], []⟩ _ (by kernel_rfl) (fun X => by kernel_rfl) (.cons (congrArg AV.bool h352) (.cons (len_obl GSign.c ui.gList) (.cons (congrArg AV.bool h353) (.cons (at_obl (c := GSign.c) (GSign.c_eq u44) GSign.c_len h354) (.cons (len_ok 1 (GSign.q u44)) (.cons (congrArg AV.bool h355) (.cons (congrArg AV.bool h356) .nil))))))) ?_
          obtain rfl := Option.some.inj h; exact Wc.ret dn
        · obtain ⟨u4z, h357, h⟩ := obind h
          refine Wc.draw hmix [{}, {}, {}, {}, {}, { re := some (.bool true) }, {}, {}, {}, {}, {}, {}, {}, {}, { v := some (aI (ui.gList.length : Int)) }, {}, {}, { re := some (.bool true) }, {}, {}, {}, {}, {}, {}, {}, {}, { v := some (.vptr (GSign.q u44)) }, {}, {}, {}, {}, {}, { re := some (.bool true) }, {}, {}, { re := some (.bool false) }, {}, {}, {}, {}, {}, {}, {}, {}, { v := some (.vptr (GSign.q u4z)) }] [] [6] [1000000] [] ⟨[tB 6 (sEq u4z.gText u60)], [(1000000, .cells (GL06Read.k2 ui) (GL06Read.h4_9f ui))], []⟩ _ (by kernel_rfl) (fun X => by kernel_rfl) (.cons (congrArg AV.bool h352) (.cons (len_obl GSign.c ui.gList) (.cons (congrArg AV.bool h353) (.cons (at_obl (c := GSign.c) (GSign.c_eq u44) GSign.c_len h354) (.cons (len_ok 1 (GSign.q u44)) (.cons (congrArg AV.bool h355) (.cons (congrArg AV.bool h356) (.cons (at_obl (c := GSign.c) (GSign.c_eq u4z) GSign.c_len h357) (.cons (len_ok 1 [.str u4z.gText, aI u4z.gNum, aI u4z.gAt, .bool u4z.gNear]) .nil))))))))) ?_
          obtain rfl := Option.some.inj h; exact Wc.ret dn
      · refine Wc.draw hmix [{}, {}, {}, {}, {}, { re := some (.bool true) }, {}, {}, {}, {}, {}, {}, {}, {}, { v := some (aI (ui.gList.length : Int)) }, {}, {}, { re := some (.bool true) }, {}, {}, {}, {}, {}, {}, {}, {}, { v := some (.vptr (GSign.q u44)) }, {}, {}, {}, {}, {}, { re := some (.bool false) }] [] [6] [1000000] [] ⟨[tB 6 false], [(1000000, .cells (GL06Read.k2 ui) (GL06Read.h4_9f ui))], []⟩ _ (by kernel_rfl) (fun X => by kernel_rfl) (.cons (congrArg AV.bool h352) (.cons (len_obl GSign.c ui.gList) (.cons (congrArg AV.bool h353) (.cons (at_obl (c := GSign.c) (GSign.c_eq u44) GSign.c_len h354) (.cons (len_ok 1 (GSign.q u44)) (.cons (congrArg AV.bool h355) .nil)))))) ?_
        obtain rfl := Option.some.inj h; exact Wc.ret dn
    · refine Wc.draw hmix [{}, {}, {}, {}, {}, { re := some (.bool true) }, {}, {}, {}, {}, {}, {}, {}, {}, { v := some (aI (ui.gList.length : Int)) }, {}, {}, { re := some (.bool false) }] [] [6] [1000000] [] ⟨[tB 6 false], [(1000000, .cells (GL06Read.k2 ui) (GL06Read.h4_9f ui))], []⟩ _ (by kernel_rfl) (fun X => by kernel_rfl) (.cons (congrArg AV.bool h352) (.cons (len_obl GSign.c ui.gList) (.cons (congrArg AV.bool h353) .nil))) ?_
      obtain rfl := Option.some.inj h; exact Wc.ret dn
  · refine Wc.draw hmix [{}, {}, {}, {}, {}, { re := some (.bool false) }] [] [6] [1000000] [] ⟨[tB 6 false], [(1000000, .cells (GL06Read.k2 ui) (GL06Read.h4_9f ui))], []⟩ _ (by kernel_rfl) (fun X => by kernel_rfl) (.cons (congrArg AV.bool h352) .nil) ?_
    obtain rfl := Option.some.inj h; exact Wc.ret dn

def pspec_l03Num (k : Nat) (u6y : Int) : Option GTerm :=
  some (GTerm.mk 3 (bs []) u6y [])
theorem cspec_l03Num {k : Nat} {u6y : Int} {r : GTerm} (h : pspec_l03Num k u6y = some r) : FnO Tryz.prog 97 [.v (aI u6y) []] (.v (.agg (GTerm.q r)) [(3, .app 31)]) [] := by
  refine FnO.o2 Tryz.func97 (rfl : Tryz.f97.body = some _) ?_
  intro w0 X0 Fin pv0 pb gt
  unfold pspec_l03Num at h
  apply Wc.seq
  refine Wc.r0 ⟨[tI 0 u6y, tP 2 2], [(2, .cells GTerm.z [(3, .app 31)])], []⟩ ?_
  apply Wc.seq
  refine Wc.r1 [{}, {}, { tk := [4] }] ⟨[tP 2 2], [(2, .cells [aI 3, .str (bs []), aI u6y, .sl (List.map GTerm.c [])] [(3, .app 31)])], []⟩ ?_
  obtain rfl := Option.some.inj h; exact Wc.ret dn

def pspec_InfixOf_J3 (k : Nat) (u6 : ByteArray) (u9e : Bool) : Option (GOp × Bool) :=
  if u9e = true then
    some (GOp.mk u6 500 500 499, true)
  else
    if (sEq u6 (bs [42])) = true then
      if (sEq u6 (bs [42])) = true then
        some (GOp.mk u6 400 400 399, true)
      else
        some (GOp.mk (bs []) 0 0 0, false)
    else
      if (sEq u6 (bs [47, 47])) = true then
        some (GOp.mk u6 400 400 399, true)
      else
        some (GOp.mk (bs []) 0 0 0, false)
def pspec_InfixOf_J2 (k : Nat) (u6 : ByteArray) (u9f : Bool) : Option (GOp × Bool) :=
  if u9f = true then
    some (GOp.mk u6 700 699 699, true)
  else
    if (sEq u6 (bs [43])) = true then
      pspec_InfixOf_J3 k u6 (sEq u6 (bs [43]))
    else
      pspec_InfixOf_J3 k u6 (sEq u6 (bs [45]))
def pspec_InfixOf_J1 (k : Nat) (u6 : ByteArray) (u9g : Bool) : Option (GOp × Bool) :=
  if u9g = true then
    some (GOp.mk u6 1200 1199 1199, true)
  else
    if (sEq u6 (bs [59])) = true then
      some (GOp.mk u6 1100 1099 1100, true)
    else
      if (sEq u6 (bs [45, 62])) = true then
        some (GOp.mk u6 1050 1049 1050, true)
      else
        if (sEq u6 (bs [44])) = true then
          some (GOp.mk u6 1000 999 1000, true)
        else
          if (sEq u6 (bs [61])) = true then
            pspec_InfixOf_J2 k u6 (sEq u6 (bs [61]))
          else
            if (sEq u6 (bs [92, 61])) = true then
              pspec_InfixOf_J2 k u6 (sEq u6 (bs [92, 61]))
            else
              if (sEq u6 (bs [61, 61])) = true then
                pspec_InfixOf_J2 k u6 (sEq u6 (bs [61, 61]))
              else
                if (sEq u6 (bs [105, 115])) = true then
                  pspec_InfixOf_J2 k u6 (sEq u6 (bs [105, 115]))
                else
                  if (sEq u6 (bs [60])) = true then
                    pspec_InfixOf_J2 k u6 (sEq u6 (bs [60]))
                  else
                    pspec_InfixOf_J2 k u6 (sEq u6 (bs [61, 58, 61]))
def pspec_InfixOf (k : Nat) (u6 : ByteArray) : Option (GOp × Bool) :=
  if (sEq u6 (bs [58, 45])) = true then
    pspec_InfixOf_J1 k u6 (sEq u6 (bs [58, 45]))
  else
    pspec_InfixOf_J1 k u6 (sEq u6 (bs [45, 45, 62]))
set_option maxHeartbeats 4000000 in
theorem cspec_InfixOf {k : Nat} {u6 : ByteArray} {r : GOp × Bool} (h : pspec_InfixOf k u6 = some r) : FnO Tryz.prog 119 [.v (.str u6) []] (.v (.tup [.agg (GOp.q r.1), .bool r.2]) []) [] := by
  refine FnO.o2 Tryz.func119 (rfl : Tryz.f119.body = some _) ?_
  intro w0 X0 Fin pv0 pb gt
  unfold pspec_InfixOf at h
  apply Wc.seq
  refine Wc.r0 ⟨[tS 0 u6, tP 2 2], [bC 2 GOp.z], []⟩ ?_
  apply Wc.seq
  apply Wc.seq
  refine Wc.r0 ⟨[tS 0 u6, tP 2 2, tS 4 u6], [bC 2 GOp.z], []⟩ ?_
  refine Wc.block ?_
  refine Wc.seqJ (fun st => ∃ (u9g : Bool), st = ⟨[tS 0 u6, tP 2 2, tS 4 u6, tB 5 u9g], [bC 2 GOp.z], []⟩ ∧ pspec_InfixOf_J1 k u6 u9g = some r) ?_ ?_
  · apply Wc.seq
    refine Wc.r0 ⟨[tS 0 u6, tP 2 2, tS 4 u6, tB 5 (sEq u6 (bs [58, 45]))], [bC 2 GOp.z], []⟩ ?_
    rcases oif h with ⟨h373, h⟩ | ⟨h373, h⟩
    · refine Wc.cT h373 ?_
      refine Wc.skip ?_
      exact ⟨_, rfl, h⟩
    · refine Wc.cF h373 ?_
      refine Wc.r0 ⟨[tS 0 u6, tP 2 2, tS 4 u6, tB 5 (sEq u6 (bs [45, 45, 62]))], [bC 2 GOp.z], []⟩ ?_
      exact ⟨_, rfl, h⟩
  · rintro st ⟨u9g, rfl, h⟩
    rcases oif h with ⟨h358, h⟩ | ⟨h358, h⟩
    · refine Wc.cT h358 ?_
      apply Wc.seq
      refine Wc.r0 ⟨[tP 2 2, tB 3 true], [bC 2 [.str u6, aI 1200, aI 1199, aI 1199]], []⟩ ?_
      obtain rfl := Option.some.inj h; exact Wc.ret dn
    · refine Wc.cF h358 ?_
      apply Wc.seq
      refine Wc.r0 ⟨[tS 0 u6, tP 2 2, tS 4 u6, tB 10 (sEq u6 (bs [59]))], [bC 2 GOp.z], []⟩ ?_
      rcases oif h with ⟨h359, h⟩ | ⟨h359, h⟩
      · refine Wc.cT h359 ?_
        apply Wc.seq
        refine Wc.r0 ⟨[tP 2 2, tB 3 true], [bC 2 [.str u6, aI 1100, aI 1099, aI 1100]], []⟩ ?_
        obtain rfl := Option.some.inj h; exact Wc.ret dn
      · refine Wc.cF h359 ?_
        apply Wc.seq
        refine Wc.r0 ⟨[tS 0 u6, tP 2 2, tS 4 u6, tB 14 (sEq u6 (bs [45, 62]))], [bC 2 GOp.z], []⟩ ?_
        rcases oif h with ⟨h360, h⟩ | ⟨h360, h⟩
        · refine Wc.cT h360 ?_
          apply Wc.seq
          refine Wc.r0 ⟨[tP 2 2, tB 3 true], [bC 2 [.str u6, aI 1050, aI 1049, aI 1050]], []⟩ ?_
          obtain rfl := Option.some.inj h; exact Wc.ret dn
        · refine Wc.cF h360 ?_
          apply Wc.seq
          refine Wc.r0 ⟨[tS 0 u6, tP 2 2, tS 4 u6, tB 18 (sEq u6 (bs [44]))], [bC 2 GOp.z], []⟩ ?_
          rcases oif h with ⟨h361, h⟩ | ⟨h361, h⟩
          · refine Wc.cT h361 ?_
            apply Wc.seq
            refine Wc.r0 ⟨[tP 2 2, tB 3 true], [bC 2 [.str u6, aI 1000, aI 999, aI 1000]], []⟩ ?_
            obtain rfl := Option.some.inj h; exact Wc.ret dn
          · refine Wc.cF h361 ?_
            refine Wc.seqJ (fun st => ∃ (u9f : Bool), st = ⟨[tS 0 u6, tP 2 2, tS 4 u6, tB 22 u9f], [bC 2 GOp.z], []⟩ ∧ pspec_InfixOf_J2 k u6 u9f = some r) ?_ ?_
            · apply Wc.seq
              refine Wc.r0 ⟨[tS 0 u6, tP 2 2, tS 4 u6, tB 22 (sEq u6 (bs [61]))], [bC 2 GOp.z], []⟩ ?_
              rcases oif h with ⟨h368, h⟩ | ⟨h368, h⟩
              · refine Wc.cT h368 ?_
                refine Wc.skip ?_
                exact ⟨_, rfl, h⟩
              · refine Wc.cF h368 ?_
                apply Wc.seq
                refine Wc.r0 ⟨[tS 0 u6, tP 2 2, tS 4 u6, tB 22 (sEq u6 (bs [92, 61]))], [bC 2 GOp.z], []⟩ ?_
                rcases oif h with ⟨h369, h⟩ | ⟨h369, h⟩
                · refine Wc.cT h369 ?_
                  refine Wc.skip ?_
                  exact ⟨_, rfl, h⟩
                · refine Wc.cF h369 ?_
                  apply Wc.seq
                  refine Wc.r0 ⟨[tS 0 u6, tP 2 2, tS 4 u6, tB 22 (sEq u6 (bs [61, 61]))], [bC 2 GOp.z], []⟩ ?_
                  rcases oif h with ⟨h370, h⟩ | ⟨h370, h⟩
                  · refine Wc.cT h370 ?_
                    refine Wc.skip ?_
                    exact ⟨_, rfl, h⟩
                  · refine Wc.cF h370 ?_
                    apply Wc.seq
                    refine Wc.r0 ⟨[tS 0 u6, tP 2 2, tS 4 u6, tB 22 (sEq u6 (bs [105, 115]))], [bC 2 GOp.z], []⟩ ?_
                    rcases oif h with ⟨h371, h⟩ | ⟨h371, h⟩
                    · refine Wc.cT h371 ?_
                      refine Wc.skip ?_
                      exact ⟨_, rfl, h⟩
                    · refine Wc.cF h371 ?_
                      apply Wc.seq
                      refine Wc.r0 ⟨[tS 0 u6, tP 2 2, tS 4 u6, tB 22 (sEq u6 (bs [60]))], [bC 2 GOp.z], []⟩ ?_
                      rcases oif h with ⟨h372, h⟩ | ⟨h372, h⟩
                      · refine Wc.cT h372 ?_
                        refine Wc.skip ?_
                        exact ⟨_, rfl, h⟩
                      · refine Wc.cF h372 ?_
                        refine Wc.r0 ⟨[tS 0 u6, tP 2 2, tS 4 u6, tB 22 (sEq u6 (bs [61, 58, 61]))], [bC 2 GOp.z], []⟩ ?_
                        exact ⟨_, rfl, h⟩
            · rintro st ⟨u9f, rfl, h⟩
              rcases oif h with ⟨h362, h⟩ | ⟨h362, h⟩
              · refine Wc.cT h362 ?_
                apply Wc.seq
                refine Wc.r0 ⟨[tP 2 2, tB 3 true], [bC 2 [.str u6, aI 700, aI 699, aI 699]], []⟩ ?_
                obtain rfl := Option.some.inj h; exact Wc.ret dn
              · refine Wc.cF h362 ?_
                refine Wc.seqJ (fun st => ∃ (u9e : Bool), st = ⟨[tS 0 u6, tP 2 2, tS 4 u6, tB 31 u9e], [bC 2 GOp.z], []⟩ ∧ pspec_InfixOf_J3 k u6 u9e = some r) ?_ ?_
                · apply Wc.seq
                  refine Wc.r0 ⟨[tS 0 u6, tP 2 2, tS 4 u6, tB 31 (sEq u6 (bs [43]))], [bC 2 GOp.z], []⟩ ?_
                  rcases oif h with ⟨h367, h⟩ | ⟨h367, h⟩
                  · refine Wc.cT h367 ?_
                    refine Wc.skip ?_
                    exact ⟨_, rfl, h⟩
                  · refine Wc.cF h367 ?_
                    refine Wc.r0 ⟨[tS 0 u6, tP 2 2, tS 4 u6, tB 31 (sEq u6 (bs [45]))], [bC 2 GOp.z], []⟩ ?_
                    exact ⟨_, rfl, h⟩
                · rintro st ⟨u9e, rfl, h⟩
                  rcases oif h with ⟨h363, h⟩ | ⟨h363, h⟩
                  · refine Wc.cT h363 ?_
                    apply Wc.seq
                    refine Wc.r0 ⟨[tP 2 2, tB 3 true], [bC 2 [.str u6, aI 500, aI 500, aI 499]], []⟩ ?_
                    obtain rfl := Option.some.inj h; exact Wc.ret dn
                  · refine Wc.cF h363 ?_
                    apply Wc.seq
                    apply Wc.seq
                    refine Wc.r0 ⟨[tS 0 u6, tP 2 2, tS 4 u6, tB 36 (sEq u6 (bs [42]))], [bC 2 GOp.z], []⟩ ?_
                    rcases oif h with ⟨h364, h⟩ | ⟨h364, h⟩
                    · refine Wc.cT h364 ?_
                      refine Wc.fx [] ⟨[tS 0 u6, tP 2 2, tB 36 (sEq u6 (bs [42]))], [bC 2 GOp.z], []⟩ ?_
                      refine Wc.skip ?_
                      rcases oif h with ⟨h365, h⟩ | ⟨h365, h⟩
                      · refine Wc.cT h365 ?_
                        apply Wc.seq
                        refine Wc.r0 ⟨[tP 2 2, tB 3 true], [bC 2 [.str u6, aI 400, aI 400, aI 399]], []⟩ ?_
                        obtain rfl := Option.some.inj h; exact Wc.ret dn
                      · refine Wc.cF h365 ?_
                        refine Wc.fx [] ⟨[tP 2 2], [bC 2 GOp.z], []⟩ ?_
                        refine Wc.skip ?_
                        apply Wc.seq
                        refine Wc.r0 ⟨[tP 2 2, tB 3 false], [bC 2 GOp.z], []⟩ ?_
                        obtain rfl := Option.some.inj h; exact Wc.ret dn
                    · refine Wc.cF h364 ?_
                      refine Wc.r0 ⟨[tS 0 u6, tP 2 2, tB 36 (sEq u6 (bs [47, 47]))], [bC 2 GOp.z], []⟩ ?_
                      rcases oif h with ⟨h366, h⟩ | ⟨h366, h⟩
                      · refine Wc.cT h366 ?_
                        apply Wc.seq
                        refine Wc.r0 ⟨[tP 2 2, tB 3 true], [bC 2 [.str u6, aI 400, aI 400, aI 399]], []⟩ ?_
                        obtain rfl := Option.some.inj h; exact Wc.ret dn
                      · refine Wc.cF h366 ?_
                        refine Wc.fx [] ⟨[tP 2 2], [bC 2 GOp.z], []⟩ ?_
                        refine Wc.skip ?_
                        apply Wc.seq
                        refine Wc.r0 ⟨[tP 2 2, tB 3 false], [bC 2 GOp.z], []⟩ ?_
                        obtain rfl := Option.some.inj h; exact Wc.ret dn

def pspec_l06Read_mark (k : Nat) (u39 : GL06Read) (u9h : ByteArray) : Option (GL06Read × Bool) :=
  (pspec_l06Read_is k u39 4 u9h).bind fun v4 =>
  if v4.2 = true then
    some (GL06Read.mk v4.1.gList (wr.i64 (v4.1.gAt + 1)) v4.1.gBad v4.1.gDeep v4.1.gNames, true)
  else
    some (v4.1, false)
theorem cspec_l06Read_mark {k : Nat} {u39 : GL06Read} {u9h : ByteArray} {r : GL06Read × Bool} (h : pspec_l06Read_mark k u39 u9h = some r) : FnO Tryz.prog 115 [.p (GL06Read.k2 u39) (GL06Read.h4_9f u39), .v (.str u9h) []] (.v (.bool r.2) []) [(0, .p (GL06Read.k2 r.1) (GL06Read.h4_9f r.1))] := by
  refine FnO.o2 Tryz.func115 (rfl : Tryz.f115.body = some _) ?_
  intro w0 X0 Fin pv0 pb gt
  unfold pspec_l06Read_mark at h
  apply Wc.seq
  refine Wc.r0 ⟨[tP 0 1000000, tS 1 u9h], [(1000000, .cells (GL06Read.k2 u39) (GL06Read.h4_9f u39))], []⟩ ?_
  apply Wc.seq
  apply Wc.seq
  obtain ⟨v4, h374, h⟩ := obind h
  refine Wc.r2 [{}, {}, { r := some (.v (.bool v4.2) []), outs := [(0, .p (GL06Read.k2 v4.1) (GL06Read.h4_9f v4.1))] }] ⟨[tP 0 1000000, tB 7 v4.2], [(1000000, .cells (GL06Read.k2 v4.1) (GL06Read.h4_9f v4.1))], []⟩ (.cons (cspec_l06Read_is h374) .nil) ?_
  rcases oif h with ⟨h375, h⟩ | ⟨h375, h⟩
  · refine Wc.cT h375 ?_
    apply Wc.seq
    refine Wc.r0 ⟨[], [(1000000, .cells [.sl (List.map GSign.c v4.1.gList), aI (wr.i64 (v4.1.gAt + 1)), .bool v4.1.gBad, aI v4.1.gDeep, .slx] (GL06Read.h4_9f v4.1))], []⟩ ?_
    apply Wc.seq
    refine Wc.r0 ⟨[tB 4 true], [(1000000, .cells [.sl (List.map GSign.c v4.1.gList), aI (wr.i64 (v4.1.gAt + 1)), .bool v4.1.gBad, aI v4.1.gDeep, .slx] (GL06Read.h4_9f v4.1))], []⟩ ?_
    obtain rfl := Option.some.inj h; exact Wc.ret dn
  · refine Wc.cF h375 ?_
    refine Wc.fx [] ⟨[], [(1000000, .cells (GL06Read.k2 v4.1) (GL06Read.h4_9f v4.1))], []⟩ ?_
    refine Wc.skip ?_
    apply Wc.seq
    refine Wc.r0 ⟨[tB 4 false], [(1000000, .cells (GL06Read.k2 v4.1) (GL06Read.h4_9f v4.1))], []⟩ ?_
    obtain rfl := Option.some.inj h; exact Wc.ret dn

def pspec_l06Read_wants (k : Nat) (u5d : GL06Read) (uch : ByteArray) : Option GL06Read :=
  (pspec_l06Read_mark k u5d uch).bind fun z3 =>
  if (!z3.2) = true then
    some (GL06Read.mk z3.1.gList z3.1.gAt true z3.1.gDeep z3.1.gNames)
  else
    some z3.1
theorem cspec_l06Read_wants {k : Nat} {u5d : GL06Read} {uch : ByteArray} {r : GL06Read} (h : pspec_l06Read_wants k u5d uch = some r) : FnO Tryz.prog 127 [.p (GL06Read.k2 u5d) (GL06Read.h4_9f u5d), .v (.str uch) []] (.v (.tup []) []) [(0, .p (GL06Read.k2 r) (GL06Read.h4_9f r))] := by
  refine FnO.o2 Tryz.func127 (rfl : Tryz.f127.body = some _) ?_
  intro w0 X0 Fin pv0 pb gt
  unfold pspec_l06Read_wants at h
  apply Wc.seq
  obtain ⟨z3, h376, h⟩ := obind h
  refine Wc.r2 [{}, {}, { r := some (.v (.bool z3.2) []), outs := [(0, .p (GL06Read.k2 z3.1) (GL06Read.h4_9f z3.1))] }] ⟨[tP 0 1000000, tB 7 (!z3.2)], [(1000000, .cells (GL06Read.k2 z3.1) (GL06Read.h4_9f z3.1))], []⟩ (.cons (cspec_l06Read_mark h376) .nil) ?_
  rcases oif h with ⟨h377, h⟩ | ⟨h377, h⟩
  · refine Wc.cT h377 ?_
    refine Wc.r0 ⟨[], [(1000000, .cells [.sl (List.map GSign.c z3.1.gList), aI z3.1.gAt, .bool true, aI z3.1.gDeep, .slx] (GL06Read.h4_9f z3.1))], []⟩ ?_
    obtain rfl := Option.some.inj h
    exact ⟨(by first | exact .inl rfl | exact .inr rfl), by kernel_rfl, by kernel_rfl⟩
  · refine Wc.cF h377 ?_
    refine Wc.fx [] ⟨[], [(1000000, .cells (GL06Read.k2 z3.1) (GL06Read.h4_9f z3.1))], []⟩ ?_
    refine Wc.skip ?_
    obtain rfl := Option.some.inj h
    exact ⟨(by first | exact .inl rfl | exact .inr rfl), by kernel_rfl, by kernel_rfl⟩

def pspec_l06Read_near (k : Nat) (uy : GL06Read) : Option (GL06Read × Bool) :=
  if (decide ((wr.i64 (uy.gAt + 1)) < (uy.gList.length : Int))) = true then
    (at' uy.gList (wr.i64 (uy.gAt + 1))).bind fun u5e =>
    if (u5e.gKind == 3) = true then
      (at' uy.gList (wr.i64 (uy.gAt + 1))).bind fun u61 =>
      (at' uy.gList uy.gAt).bind fun u62 =>
      some (uy, (u61.gAt == (wr.i64 (u62.gAt + 1))))
    else
      some (uy, false)
  else
    some (uy, false)
theorem cspec_l06Read_near {k : Nat} {uy : GL06Read} {r : GL06Read × Bool} (h : pspec_l06Read_near k uy = some r) : FnO Tryz.prog 125 [.p (GL06Read.k2 uy) (GL06Read.h4_9f uy)] (.v (.bool r.2) []) [(0, .p (GL06Read.k2 r.1) (GL06Read.h4_9f r.1))] := by
  refine FnO.o2 Tryz.func125 (rfl : Tryz.f125.body = some _) ?_
  intro w0 X0 Fin pv0 pb gt
  unfold pspec_l06Read_near at h
  apply Wc.seq
  refine Wc.r0 ⟨[tP 0 1000000], [(1000000, .cells (GL06Read.k2 uy) (GL06Read.h4_9f uy))], []⟩ ?_
  apply Wc.seq
  rcases oif h with ⟨h378, h⟩ | ⟨h378, h⟩
  · obtain ⟨u5e, h379, h⟩ := obind h
    rcases oif h with ⟨h380, h⟩ | ⟨h380, h⟩
    · obtain ⟨u61, h381, h⟩ := obind h
      obtain ⟨u62, h382, h⟩ := obind h
      refine Wc.draw hmix [{}, {}, {}, {}, {}, {}, {}, {}, {}, { v := some (aI (uy.gList.length : Int)) }, {}, { re := some (.bool true) }, {}, {}, {}, {}, {}, {}, {}, {}, {}, { v := some (.vptr (GSign.q u5e)) }, {}, {}, {}, {}, { re := some (.bool true) }, {}, {}, {}, {}, {}, {}, {}, {}, {}, { v := some (.vptr (GSign.q u61)) }, {}, {}, {}, {}, {}, {}, {}, {}, {}, {}, { v := some (.vptr (GSign.q u62)) }] [] [2] [1000000] [] ⟨[tB 2 (u61.gAt == (wr.i64 (u62.gAt + 1)))], [(1000000, .cells (GL06Read.k2 uy) (GL06Read.h4_9f uy))], []⟩ _ (by kernel_rfl) (fun X => by kernel_rfl) (.cons (len_obl GSign.c uy.gList) (.cons (congrArg AV.bool h378) (.cons (at_obl (c := GSign.c) (GSign.c_eq u5e) GSign.c_len h379) (.cons (len_ok 1 (GSign.q u5e)) (.cons (congrArg AV.bool h380) (.cons (at_obl (c := GSign.c) (GSign.c_eq u61) GSign.c_len h381) (.cons (len_ok 1 [aI u61.gAt, .bool u61.gNear]) (.cons (at_obl (c := GSign.c) (GSign.c_eq u62) GSign.c_len h382) (.cons (len_ok 1 [aI u62.gAt, .bool u62.gNear]) .nil))))))))) ?_
      obtain rfl := Option.some.inj h; exact Wc.ret dn
    · refine Wc.draw hmix [{}, {}, {}, {}, {}, {}, {}, {}, {}, { v := some (aI (uy.gList.length : Int)) }, {}, { re := some (.bool true) }, {}, {}, {}, {}, {}, {}, {}, {}, {}, { v := some (.vptr (GSign.q u5e)) }, {}, {}, {}, {}, { re := some (.bool false) }] [] [2] [1000000] [] ⟨[tB 2 false], [(1000000, .cells (GL06Read.k2 uy) (GL06Read.h4_9f uy))], []⟩ _ (by kernel_rfl) (fun X => by kernel_rfl) (.cons (len_obl GSign.c uy.gList) (.cons (congrArg AV.bool h378) (.cons (at_obl (c := GSign.c) (GSign.c_eq u5e) GSign.c_len h379) (.cons (len_ok 1 (GSign.q u5e)) (.cons (congrArg AV.bool h380) .nil))))) ?_
      obtain rfl := Option.some.inj h; exact Wc.ret dn
  · refine Wc.draw hmix [{}, {}, {}, {}, {}, {}, {}, {}, {}, { v := some (aI (uy.gList.length : Int)) }, {}, { re := some (.bool false) }] [] [2] [1000000] [] ⟨[tB 2 false], [(1000000, .cells (GL06Read.k2 uy) (GL06Read.h4_9f uy))], []⟩ _ (by kernel_rfl) (fun X => by kernel_rfl) (.cons (len_obl GSign.c uy.gList) (.cons (congrArg AV.bool h378) .nil)) ?_
    obtain rfl := Option.some.inj h; exact Wc.ret dn

def pspec_PrefixOf (k : Nat) (u04 : ByteArray) : Option (GOp × Bool) :=
  if (sEq u04 (bs [58, 45])) = true then
    some (GOp.mk u04 1200 0 1199, true)
  else
    if (sEq u04 (bs [92, 43])) = true then
      some (GOp.mk u04 900 0 900, true)
    else
      if (sEq u04 (bs [45])) = true then
        some (GOp.mk u04 200 0 200, true)
      else
        some (GOp.mk (bs []) 0 0 0, false)
theorem cspec_PrefixOf {k : Nat} {u04 : ByteArray} {r : GOp × Bool} (h : pspec_PrefixOf k u04 = some r) : FnO Tryz.prog 126 [.v (.str u04) []] (.v (.tup [.agg (GOp.q r.1), .bool r.2]) []) [] := by
  refine FnO.o2 Tryz.func126 (rfl : Tryz.f126.body = some _) ?_
  intro w0 X0 Fin pv0 pb gt
  unfold pspec_PrefixOf at h
  apply Wc.seq
  refine Wc.r0 ⟨[tS 0 u04, tP 2 2], [bC 2 GOp.z], []⟩ ?_
  apply Wc.seq
  apply Wc.seq
  refine Wc.r0 ⟨[tS 0 u04, tP 2 2, tS 4 u04], [bC 2 GOp.z], []⟩ ?_
  refine Wc.block ?_
  apply Wc.seq
  refine Wc.r0 ⟨[tS 0 u04, tP 2 2, tS 4 u04, tB 5 (sEq u04 (bs [58, 45]))], [bC 2 GOp.z], []⟩ ?_
  rcases oif h with ⟨h383, h⟩ | ⟨h383, h⟩
  · refine Wc.cT h383 ?_
    apply Wc.seq
    refine Wc.r0 ⟨[tP 2 2, tB 3 true], [bC 2 [.str u04, aI 1200, aI 0, aI 1199]], []⟩ ?_
    obtain rfl := Option.some.inj h; exact Wc.ret dn
  · refine Wc.cF h383 ?_
    apply Wc.seq
    refine Wc.r0 ⟨[tS 0 u04, tP 2 2, tS 4 u04, tB 9 (sEq u04 (bs [92, 43]))], [bC 2 GOp.z], []⟩ ?_
    rcases oif h with ⟨h384, h⟩ | ⟨h384, h⟩
    · refine Wc.cT h384 ?_
      apply Wc.seq
      refine Wc.r0 ⟨[tP 2 2, tB 3 true], [bC 2 [.str u04, aI 900, aI 0, aI 900]], []⟩ ?_
      obtain rfl := Option.some.inj h; exact Wc.ret dn
    · refine Wc.cF h384 ?_
      apply Wc.seq
      refine Wc.r0 ⟨[tS 0 u04, tP 2 2, tB 13 (sEq u04 (bs [45]))], [bC 2 GOp.z], []⟩ ?_
      rcases oif h with ⟨h385, h⟩ | ⟨h385, h⟩
      · refine Wc.cT h385 ?_
        apply Wc.seq
        refine Wc.r0 ⟨[tP 2 2, tB 3 true], [bC 2 [.str u04, aI 200, aI 0, aI 200]], []⟩ ?_
        obtain rfl := Option.some.inj h; exact Wc.ret dn
      · refine Wc.cF h385 ?_
        refine Wc.fx [] ⟨[tP 2 2], [bC 2 GOp.z], []⟩ ?_
        refine Wc.skip ?_
        apply Wc.seq
        refine Wc.r0 ⟨[tP 2 2, tB 3 false], [bC 2 GOp.z], []⟩ ?_
        obtain rfl := Option.some.inj h; exact Wc.ret dn

def pspec_l03Var (k : Nat) (u6z : Int) : Option GTerm :=
  some (GTerm.mk 1 (bs []) u6z [])
theorem cspec_l03Var {k : Nat} {u6z : Int} {r : GTerm} (h : pspec_l03Var k u6z = some r) : FnO Tryz.prog 96 [.v (aI u6z) []] (.v (.agg (GTerm.q r)) [(3, .app 31)]) [] := by
  refine FnO.o2 Tryz.func96 (rfl : Tryz.f96.body = some _) ?_
  intro w0 X0 Fin pv0 pb gt
  unfold pspec_l03Var at h
  apply Wc.seq
  refine Wc.r0 ⟨[tI 0 u6z, tP 2 2], [(2, .cells GTerm.z [(3, .app 31)])], []⟩ ?_
  apply Wc.seq
  refine Wc.r1 [{}, {}, { tk := [4] }] ⟨[tP 2 2], [(2, .cells [aI 1, .str (bs []), aI u6z, .sl (List.map GTerm.c [])] [(3, .app 31)])], []⟩ ?_
  obtain rfl := Option.some.inj h; exact Wc.ret dn

def pspec_l06Read_variable_J1 (k : Nat) (u7 : GL06Read) (v2 : ByteArray) : Option (GL06Read × GTerm) :=
  if u7.gNames.length + [v2].length ≤ 1073741824 then
    (pspec_l03Var k (wr.i64 (((u7.gNames ++ [v2]).length : Int) - 1))).bind fun uci =>
    some (GL06Read.mk u7.gList u7.gAt u7.gBad u7.gDeep (u7.gNames ++ [v2]), uci)
  else none
def pspec_l06Read_variable_L2 (k : Nat) (u7 : GL06Read) (v2 : ByteArray) : Nat → Int → Option (Out (GL06Read × GTerm) Unit)
  | 0, _ => none
  | m + 1, u2u =>
    if (decide (u2u < (u7.gNames.length : Int))) = true then
      (at' u7.gNames u2u).bind fun u9i =>
      if (sEq u9i v2) = true then
        (pspec_l03Var k u2u).bind fun ucj =>
        some (.ret (u7, ucj))
      else
        pspec_l06Read_variable_L2 k u7 v2 m (wr.i64 (u2u + 1))
    else
      some (.done ())
def pspec_l06Read_variable (k : Nat) (u7 : GL06Read) (v2 : ByteArray) : Option (GL06Read × GTerm) :=
  if (!(sEq v2 (bs [95]))) = true then
    (pspec_l06Read_variable_L2 k u7 v2 k 0).bind fun out2 => match out2 with
    | .ret r => some r
    | .done () =>
      pspec_l06Read_variable_J1 k u7 v2
  else
    pspec_l06Read_variable_J1 k u7 v2
theorem cspec_l06Read_variable {k : Nat} {u7 : GL06Read} {v2 : ByteArray} {r : GL06Read × GTerm} (h : pspec_l06Read_variable k u7 v2 = some r) : FnO Tryz.prog 118 [.p (GL06Read.k2 u7) (GL06Read.h4_9f u7), .v (.str v2) []] (.v (.agg (GTerm.q r.2)) [(3, .app 31)]) [(0, .p (GL06Read.k2 r.1) (GL06Read.h4_9f r.1))] := by
  refine FnO.o2 Tryz.func118 (rfl : Tryz.f118.body = some _) ?_
  intro w0 X0 Fin pv0 pb gt
  unfold pspec_l06Read_variable at h
  apply Wc.seq
  refine Wc.r0 ⟨[tP 0 1000000, tS 1 v2, tP 4 4], [(4, .cells GTerm.z [(3, .app 31)]), (1000000, .cells (GL06Read.k2 u7) (GL06Read.h4_9f u7))], []⟩ ?_
  refine Wc.seqJ (fun st => st = ⟨[tP 0 1000000, tS 1 v2, tP 4 4], [(4, .cells GTerm.z [(3, .app 31)]), (1000000, .cells (GL06Read.k2 u7) (GL06Read.h4_9f u7))], []⟩ ∧ pspec_l06Read_variable_J1 k u7 v2 = some r) ?_ ?_
  · apply Wc.seq
    refine Wc.r0 ⟨[tP 0 1000000, tS 1 v2, tP 4 4, tB 7 (!(sEq v2 (bs [95])))], [(4, .cells GTerm.z [(3, .app 31)]), (1000000, .cells (GL06Read.k2 u7) (GL06Read.h4_9f u7))], []⟩ ?_
    rcases oif h with ⟨h396, h⟩ | ⟨h396, h⟩
    · refine Wc.cT h396 ?_
      apply Wc.seq
      refine Wc.r0 ⟨[tP 0 1000000, tS 1 v2, tP 4 4, tI 5 0], [(4, .cells GTerm.z [(3, .app 31)]), (1000000, .cells (GL06Read.k2 u7) (GL06Read.h4_9f u7))], []⟩ ?_
      obtain ⟨out2, h397, h⟩ := obind h
      refine Wc.lastJ (fun st => out2 = .done () ∧ st = ⟨[tP 0 1000000, tS 1 v2, tP 4 4], [(4, .cells GTerm.z [(3, .app 31)]), (1000000, .cells (GL06Read.k2 u7) (GL06Read.h4_9f u7))], []⟩) ?_ ?_
      · refine Wc.block ?_
        refine Wc.loop (fun m st => ∃ (u2u : Int), st = ⟨[tP 0 1000000, tS 1 v2, tP 4 4, tI 5 u2u], [(4, .cells GTerm.z [(3, .app 31)]), (1000000, .cells (GL06Read.k2 u7) (GL06Read.h4_9f u7))], []⟩ ∧ pspec_l06Read_variable_L2 k u7 v2 m u2u = some out2) ?_ k ⟨_, rfl, h397⟩
        rintro m st ⟨u2u, rfl, h397⟩
        cases m with
        | zero => exact (onone h397).elim
        | succ m =>
          apply Wc.seq
          apply Wc.seq
          refine Wc.r2 [{}, {}, {}, {}, {}, { v := some (aI (u7.gNames.length : Int)) }] ⟨[tP 0 1000000, tS 1 v2, tP 4 4, tI 5 u2u, tB 14 (decide (u2u < (u7.gNames.length : Int)))], [(4, .cells GTerm.z [(3, .app 31)]), (1000000, .cells (GL06Read.k2 u7) (GL06Read.h4_9f u7))], []⟩ (.cons (len_obl cS u7.gNames) .nil) ?_
          rcases oif h397 with ⟨h398, h397⟩ | ⟨h398, h397⟩
          · refine Wc.cT h398 ?_
            refine Wc.fx [] ⟨[tP 0 1000000, tS 1 v2, tP 4 4, tI 5 u2u], [(4, .cells GTerm.z [(3, .app 31)]), (1000000, .cells (GL06Read.k2 u7) (GL06Read.h4_9f u7))], []⟩ ?_
            refine Wc.skip ?_
            apply Wc.seq
            refine Wc.block ?_
            apply Wc.seq
            obtain ⟨u9i, h399, h397⟩ := obind h397
            refine Wc.r2 [{}, {}, {}, {}, {}, {}, { v := some (.str u9i) }] ⟨[tP 0 1000000, tS 1 v2, tP 4 4, tI 5 u2u, tB 25 (sEq u9i v2)], [(4, .cells GTerm.z [(3, .app 31)]), (1000000, .cells (GL06Read.k2 u7) (GL06Read.h4_9f u7))], []⟩ (.cons (ix_obl (c := cS) cS_len h399) (.cons (el_obl (sz := 1) (off := 0) (s := 1) (ag := false) (v := .str u9i) (c := cS) rfl (at'_spec h399).2 rfl (Nat.le_of_ble_eq_true rfl) rfl) .nil)) ?_
            rcases oif h397 with ⟨h400, h397⟩ | ⟨h400, h397⟩
            · refine Wc.cT h400 ?_
              apply Wc.seq
              obtain ⟨ucj, h401, h397⟩ := obind h397
              refine Wc.r2 [{}, { r := some (.v (.agg (GTerm.q ucj)) [(3, .app 31)]) }, { tk := [27] }] ⟨[tP 4 4], [(4, .cells (GTerm.q ucj) [(3, .app 31)]), (1000000, .cells (GL06Read.k2 u7) (GL06Read.h4_9f u7))], []⟩ (.cons (cspec_l03Var h401) .nil) ?_
              refine Wc.ret ?_
              obtain rfl := Option.some.inj h397
              obtain rfl := Option.some.inj h
              exact ⟨.inl rfl, by kernel_rfl, by kernel_rfl⟩
            · refine Wc.cF h400 ?_
              refine Wc.fx [] ⟨[tP 0 1000000, tS 1 v2, tP 4 4, tI 5 u2u], [(4, .cells GTerm.z [(3, .app 31)]), (1000000, .cells (GL06Read.k2 u7) (GL06Read.h4_9f u7))], []⟩ ?_
              refine Wc.skip ?_
              refine Wc.r0 ⟨[tP 0 1000000, tS 1 v2, tP 4 4, tI 5 (wr.i64 (u2u + 1))], [(4, .cells GTerm.z [(3, .app 31)]), (1000000, .cells (GL06Read.k2 u7) (GL06Read.h4_9f u7))], []⟩ ?_
              exact ⟨_, Nat.lt_succ_self _, _, rfl, h397⟩
          · refine Wc.cF h398 ?_
            refine Wc.fx [] ⟨[tP 0 1000000, tS 1 v2, tP 4 4], [(4, .cells GTerm.z [(3, .app 31)]), (1000000, .cells (GL06Read.k2 u7) (GL06Read.h4_9f u7))], []⟩ ?_
            refine Wc.exit ?_
            obtain rfl := Option.some.inj h397
            exact ⟨rfl, rfl⟩
      · rintro st ⟨rfl, rfl⟩
        exact ⟨rfl, h⟩
    · refine Wc.cF h396 ?_
      refine Wc.fx [] ⟨[tP 0 1000000, tS 1 v2, tP 4 4], [(4, .cells GTerm.z [(3, .app 31)]), (1000000, .cells (GL06Read.k2 u7) (GL06Read.h4_9f u7))], []⟩ ?_
      refine Wc.skip ?_
      exact ⟨rfl, h⟩
  · rintro st ⟨rfl, h⟩
    apply Wc.seq
    obtain ⟨h394, h⟩ := oguard h
    refine Wc.r2 [{}, {}, {}, {}, { md := 1 }, {}, { c := some (List.map cS [v2]) }, { c := some (List.map cS (u7.gNames ++ [v2])), tk := [32], md := 1 }, {}, {}, { tk := [35] }] ⟨[tP 0 1000000, tP 4 4], [(4, .cells GTerm.z [(3, .app 31)]), (1000000, .cells (GL06Read.k2 u7) [(4, .ex 9 false (List.map cS (u7.gNames ++ [v2])))])], []⟩ (.cons (cl_cons (c := cS) (x := v2) rfl (cl_nil cS)) (.cons (app_re2 cS u7.gNames [v2]) (.cons (app_leaf (c := cS) (ys := [v2]) cS_leaf) (.cons (app_obl2 (c := cS) (xs := u7.gNames) (ys := [v2]) cS_len h394) .nil)))) ?_
    apply Wc.seq
    obtain ⟨uci, h395, h⟩ := obind h
    refine Wc.r2 [{}, {}, {}, {}, { v := some (aI ((u7.gNames ++ [v2]).length : Int)) }, {}, { r := some (.v (.agg (GTerm.q uci)) [(3, .app 31)]) }, { tk := [44] }] ⟨[tP 4 4], [(4, .cells (GTerm.q uci) [(3, .app 31)]), (1000000, .cells (GL06Read.k2 u7) [(4, .ex 9 false (List.map cS (u7.gNames ++ [v2])))])], []⟩ (.cons (len_obl cS (u7.gNames ++ [v2])) (.cons (cspec_l03Var h395) .nil)) ?_
    obtain rfl := Option.some.inj h; exact Wc.ret dn

def pspec_l06Read_infix_J1 (k : Nat) (u9j : Bool) (za : GL06Read) : Option (GL06Read × GOp × Bool) :=
  if u9j = true then
    (at' za.gList za.gAt).bind fun u5f =>
    (pspec_InfixOf k u5f.gText).bind fun u63 =>
    some (za, u63.1, u63.2)
  else
    some (za, GOp.mk (bs []) 0 0 0, false)
def pspec_l06Read_infix (k : Nat) (u3a : GL06Read) : Option (GL06Read × GOp × Bool) :=
  (pspec_l06Read_is k u3a 4 (bs [44])).bind fun zk =>
  if zk.2 = true then
    (pspec_InfixOf k (bs [44])).bind fun u64 =>
    some (zk.1, u64.1, u64.2)
  else
    (pspec_l06Read_is k zk.1 1 (bs [])).bind fun z4 =>
    if z4.2 = true then
      (at' z4.1.gList z4.1.gAt).bind fun u70 =>
      pspec_l06Read_infix_J1 k (!u70.gNear) z4.1
    else
      pspec_l06Read_infix_J1 k false z4.1
theorem cspec_l06Read_infix {k : Nat} {u3a : GL06Read} {r : GL06Read × GOp × Bool} (h : pspec_l06Read_infix k u3a = some r) : FnO Tryz.prog 111 [.p (GL06Read.k2 u3a) (GL06Read.h4_9f u3a)] (.v (.tup [.agg (GOp.q r.2.1), .bool r.2.2]) []) [(0, .p (GL06Read.k2 r.1) (GL06Read.h4_9f r.1))] := by
  refine FnO.o2 Tryz.func111 (rfl : Tryz.f111.body = some _) ?_
  intro w0 X0 Fin pv0 pb gt
  unfold pspec_l06Read_infix at h
  apply Wc.seq
  refine Wc.r0 ⟨[tP 0 1000000, tP 2 2], [bC 2 GOp.z, (1000000, .cells (GL06Read.k2 u3a) (GL06Read.h4_9f u3a))], []⟩ ?_
  apply Wc.seq
  apply Wc.seq
  obtain ⟨zk, h402, h⟩ := obind h
  refine Wc.r2 [{}, { r := some (.v (.bool zk.2) []), outs := [(0, .p (GL06Read.k2 zk.1) (GL06Read.h4_9f zk.1))] }] ⟨[tP 0 1000000, tP 2 2, tB 5 zk.2], [bC 2 GOp.z, (1000000, .cells (GL06Read.k2 zk.1) (GL06Read.h4_9f zk.1))], []⟩ (.cons (cspec_l06Read_is h402) .nil) ?_
  rcases oif h with ⟨h403, h⟩ | ⟨h403, h⟩
  · refine Wc.cT h403 ?_
    apply Wc.seq
    obtain ⟨u64, h404, h⟩ := obind h
    refine Wc.r2 [{ r := some (.v (.tup [.agg (GOp.q u64.1), .bool u64.2]) []) }] ⟨[tP 2 2, tB 3 u64.2], [bC 2 (GOp.q u64.1), (1000000, .cells (GL06Read.k2 zk.1) (GL06Read.h4_9f zk.1))], []⟩ (.cons (cspec_InfixOf h404) .nil) ?_
    obtain rfl := Option.some.inj h; exact Wc.ret dn
  · refine Wc.cF h403 ?_
    refine Wc.fx [] ⟨[tP 0 1000000, tP 2 2], [bC 2 GOp.z, (1000000, .cells (GL06Read.k2 zk.1) (GL06Read.h4_9f zk.1))], []⟩ ?_
    refine Wc.skip ?_
    apply Wc.seq
    refine Wc.seqJ (fun st => ∃ (u9j : Bool) (za : GL06Read), st = ⟨[tP 0 1000000, tP 2 2, tB 24 u9j], [bC 2 GOp.z, (1000000, .cells (GL06Read.k2 za) (GL06Read.h4_9f za))], []⟩ ∧ pspec_l06Read_infix_J1 k u9j za = some r) ?_ ?_
    · obtain ⟨z4, h408, h⟩ := obind h
      rcases oif h with ⟨h409, h⟩ | ⟨h409, h⟩
      · obtain ⟨u70, h410, h⟩ := obind h
        refine Wc.draw hmix [{}, { r := some (.v (.bool z4.2) []), outs := [(0, .p (GL06Read.k2 z4.1) (GL06Read.h4_9f z4.1))] }, { re := some (.bool true) }, {}, {}, {}, {}, {}, {}, {}, {}, { v := some (.vptr (GSign.q u70)) }] [] [0, 2, 24] [2, 1000000] [] ⟨[tP 0 1000000, tP 2 2, tB 24 (!u70.gNear)], [bC 2 GOp.z, (1000000, .cells (GL06Read.k2 z4.1) (GL06Read.h4_9f z4.1))], []⟩ _ (by kernel_rfl) (fun X => by kernel_rfl) (.cons (cspec_l06Read_is h408) (.cons (congrArg AV.bool h409) (.cons (at_obl (c := GSign.c) (GSign.c_eq u70) GSign.c_len h410) (.cons (len_ok 1 [.bool u70.gNear]) .nil)))) ?_
        exact ⟨_, _, rfl, h⟩
      · refine Wc.draw hmix [{}, { r := some (.v (.bool z4.2) []), outs := [(0, .p (GL06Read.k2 z4.1) (GL06Read.h4_9f z4.1))] }, { re := some (.bool false) }] [] [0, 2, 24] [2, 1000000] [] ⟨[tP 0 1000000, tP 2 2, tB 24 false], [bC 2 GOp.z, (1000000, .cells (GL06Read.k2 z4.1) (GL06Read.h4_9f z4.1))], []⟩ _ (by kernel_rfl) (fun X => by kernel_rfl) (.cons (cspec_l06Read_is h408) (.cons (congrArg AV.bool h409) .nil)) ?_
        exact ⟨_, _, rfl, h⟩
    · rintro st ⟨u9j, za, rfl, h⟩
      rcases oif h with ⟨h405, h⟩ | ⟨h405, h⟩
      · refine Wc.cT h405 ?_
        apply Wc.seq
        obtain ⟨u5f, h406, h⟩ := obind h
        obtain ⟨u63, h407, h⟩ := obind h
        refine Wc.draw hmix [{}, {}, {}, {}, {}, {}, {}, {}, { v := some (.vptr (GSign.q u5f)) }, {}, {}, { r := some (.v (.tup [.agg (GOp.q u63.1), .bool u63.2]) []) }] [] [2, 3] [2, 1000000] [] ⟨[tP 2 2, tB 3 u63.2], [bC 2 (GOp.q u63.1), (1000000, .cells (GL06Read.k2 za) (GL06Read.h4_9f za))], []⟩ _ (by kernel_rfl) (fun X => by kernel_rfl) (.cons (at_obl (c := GSign.c) (GSign.c_eq u5f) GSign.c_len h406) (.cons (len_ok 1 [.str u5f.gText, aI u5f.gNum, aI u5f.gAt, .bool u5f.gNear]) (.cons (cspec_InfixOf h407) .nil))) ?_
        obtain rfl := Option.some.inj h; exact Wc.ret dn
      · refine Wc.cF h405 ?_
        refine Wc.fx [] ⟨[tP 2 2], [bC 2 GOp.z, (1000000, .cells (GL06Read.k2 za) (GL06Read.h4_9f za))], []⟩ ?_
        refine Wc.skip ?_
        apply Wc.seq
        refine Wc.r0 ⟨[tP 2 2, tB 3 false], [bC 2 GOp.z, (1000000, .cells (GL06Read.k2 za) (GL06Read.h4_9f za))], []⟩ ?_
        obtain rfl := Option.some.inj h; exact Wc.ret dn
end Go.Proofs.YthemaodhckmnkaaGreatDoor

/- What the functions do, part 1. -/
import Derived.Test.YthemaodhckmnkaaTy
set_option linter.unusedVariables false
set_option linter.unusedSimpArgs false
namespace Go.Proofs.Ythemaodhckmnkaa
open Go.RowKit Go.Bv
def plaws_big (k : Nat) (u5u : List Int) : Option Bool :=
  some (decide ((u5u.length : Int) > 1048576))
theorem claws_big {k : Nat} {u5u : List Int} {r : Bool} (h : plaws_big k u5u = some r) : FnO Try.prog 8 [.v (.sl (List.map cI.u8 u5u)) []] (.v (.bool r) []) [] := by
  refine FnO.o2 Try.func8 (rfl : Try.f8.body = some _) ?_
  intro w0 X0 Fin pv0 pb
  unfold plaws_big at h
  apply Wc.seq
  refine Wc.r0 ⟨[tV 0 (.sl (List.map cI.u8 u5u))], [], []⟩ ?_
  apply Wc.seq
  refine Wc.r2 [{}, { v := some (aI (u5u.length : Int)) }] ⟨[tB 2 (decide ((u5u.length : Int) > 1048576))], [], []⟩ (.cons (len_obl cI.u8 u5u) .nil) ?_
  obtain rfl := Option.some.inj h; exact Wc.ret dn

def pspec_l03Count_L1 (k : Nat) (rspec_l03Count : GTerm → Int → Option Int) (zd : GTerm) : Nat → Int → Int → Option (Out Int Int)
  | 0, _, _ => none
  | m + 1, u30, u3r =>
    if (decide (u3r < (zd.gKids.length : Int))) = true then
      if (decide (u30 ≥ 0)) = true then
        (at' zd.gKids u3r).bind fun u91 =>
        (rspec_l03Count u91 u30).bind fun u92 =>
        pspec_l03Count_L1 k rspec_l03Count zd m u92 (wr.i64 (u3r + 1))
      else
        some (.done u30)
    else
      some (.done u30)
mutual
def pspec_l03Count : Nat → GTerm → Int → Option Int
  | 0, _, _ => none
  | k + 1, zd, u3s =>
    (pspec_l03Count_L1 k (pspec_l03Count k) zd k (wr.i64 (u3s - 1)) 0).bind fun out1 => match out1 with
    | .ret r => some r
    | .done u72 =>
      some u72
end
theorem all_pspec_l03Count : ∀ k : Nat, (∀ {zd : GTerm} {u3s : Int} {r : Int}, pspec_l03Count k zd u3s = some r → FnO Try.prog 73 [.v (.agg (GTerm.q zd)) [], .v (aI u3s) []] (.v (aI r) []) []) := by
  intro k
  induction k with
  | zero =>
    · intro zd u3s r h
      exact (onone (by rw [pspec_l03Count] at h; exact h)).elim
  | succ k ih =>
    have ih_pspec_l03Count := @ih
    · intro zd u3s r h
      rw [pspec_l03Count] at h
      refine FnO.o2 Try.func73 (rfl : Try.f73.body = some _) ?_
      intro w0 X0 Fin pv0 pb
      apply Wc.seq
      refine Wc.r0 ⟨[tI 1 u3s, tP 2 2], [bC 2 (GTerm.q zd)], []⟩ ?_
      apply Wc.seq
      refine Wc.r0 ⟨[tI 1 (wr.i64 (u3s - 1)), tP 2 2], [bC 2 (GTerm.q zd)], []⟩ ?_
      apply Wc.seq
      apply Wc.seq
      refine Wc.r0 ⟨[tI 1 (wr.i64 (u3s - 1)), tP 2 2, tI 5 0], [bC 2 (GTerm.q zd)], []⟩ ?_
      obtain ⟨out1, h1, h⟩ := obind h
      refine Wc.lastJ (fun st => ∃ (u72 : Int), out1 = .done u72 ∧ st = ⟨[tI 1 u72], [], []⟩) ?_ ?_
      · refine Wc.block ?_
        refine Wc.loop (fun m st => ∃ (u30 : Int) (u3r : Int), st = ⟨[tI 1 u30, tP 2 2, tI 5 u3r], [bC 2 (GTerm.q zd)], []⟩ ∧ pspec_l03Count_L1 k (pspec_l03Count k) zd m u30 u3r = some out1) ?_ k ⟨_, _, rfl, h1⟩
        rintro m st ⟨u30, u3r, rfl, h1⟩
        cases m with
        | zero => exact (onone h1).elim
        | succ m =>
          apply Wc.seq
          apply Wc.seq
          rcases oif h1 with ⟨h2, h1⟩ | ⟨h2, h1⟩
          · refine Wc.r2 [{}, {}, {}, { v := some (aI (zd.gKids.length : Int)) }, {}, { re := some (.bool true) }] ⟨[tI 1 u30, tP 2 2, tI 5 u3r, tB 16 (decide (u30 ≥ 0))], [bC 2 (GTerm.q zd)], []⟩ (.cons (len_obl GTerm.c zd.gKids) (.cons (congrArg AV.bool h2) .nil)) ?_
            rcases oif h1 with ⟨h3, h1⟩ | ⟨h3, h1⟩
            · refine Wc.cT h3 ?_
              refine Wc.fx [] ⟨[tI 1 u30, tP 2 2, tI 5 u3r], [bC 2 (GTerm.q zd)], []⟩ ?_
              refine Wc.skip ?_
              apply Wc.seq
              refine Wc.block ?_
              obtain ⟨u91, h4, h1⟩ := obind h1
              obtain ⟨u92, h5, h1⟩ := obind h1
              refine Wc.r2 [{}, {}, {}, { v := some (.vptr (GTerm.q u91)) }, {}, {}, { r := some (.v (aI u92) []) }] ⟨[tI 1 u92, tP 2 2, tI 5 u3r], [bC 2 (GTerm.q zd)], []⟩ (.cons (at_obl (c := GTerm.c) (GTerm.c_eq u91) GTerm.c_len h4) (.cons (len_ok 4 (GTerm.q u91)) (.cons (ih_pspec_l03Count h5) .nil))) ?_
              refine Wc.r0 ⟨[tI 1 u92, tP 2 2, tI 5 (wr.i64 (u3r + 1))], [bC 2 (GTerm.q zd)], []⟩ ?_
              exact ⟨_, Nat.lt_succ_self _, _, _, rfl, h1⟩
            · refine Wc.cF h3 ?_
              refine Wc.fx [] ⟨[tI 1 u30], [], []⟩ ?_
              refine Wc.exit ?_
              obtain rfl := Option.some.inj h1
              exact ⟨_, rfl, rfl⟩
          · refine Wc.r2 [{}, {}, {}, { v := some (aI (zd.gKids.length : Int)) }, {}, { re := some (.bool false) }] ⟨[tI 1 u30, tP 2 2, tI 5 u3r, tB 16 false], [bC 2 (GTerm.q zd)], []⟩ (.cons (len_obl GTerm.c zd.gKids) (.cons (congrArg AV.bool h2) .nil)) ?_
            refine Wc.cF rfl ?_
            refine Wc.fx [] ⟨[tI 1 u30], [], []⟩ ?_
            refine Wc.exit ?_
            obtain rfl := Option.some.inj h1
            exact ⟨_, rfl, rfl⟩
      · rintro st ⟨u72, rfl, rfl⟩
        apply Wc.seq
        refine Wc.r0 ⟨[tI 4 u72], [], []⟩ ?_
        obtain rfl := Option.some.inj h; exact Wc.ret dn
theorem cspec_l03Count {k : Nat} {zd : GTerm} {u3s : Int} {r : Int} (h : pspec_l03Count k zd u3s = some r) : FnO Try.prog 73 [.v (.agg (GTerm.q zd)) [], .v (aI u3s) []] (.v (aI r) []) [] := (all_pspec_l03Count k) h

def pspec_SizeOf (k : Nat) (u93 : GTerm) : Option Int :=
  (pspec_l03Count k u93 401).bind fun u51 =>
  if (decide (u51 < 0)) = true then
    some 401
  else
    some (wr.i64 (401 - u51))
theorem cspec_SizeOf {k : Nat} {u93 : GTerm} {r : Int} (h : pspec_SizeOf k u93 = some r) : FnO Try.prog 21 [.v (.agg (GTerm.q u93)) []] (.v (aI r) []) [] := by
  refine FnO.o2 Try.func21 (rfl : Try.f21.body = some _) ?_
  intro w0 X0 Fin pv0 pb
  unfold pspec_SizeOf at h
  apply Wc.seq
  refine Wc.r0 ⟨[tP 1 1], [bC 1 (GTerm.q u93)], []⟩ ?_
  apply Wc.seq
  obtain ⟨u51, h6, h⟩ := obind h
  refine Wc.r2 [{}, { r := some (.v (aI u51) []) }] ⟨[tI 3 u51], [], []⟩ (.cons (cspec_l03Count h6) .nil) ?_
  apply Wc.seq
  apply Wc.seq
  refine Wc.r0 ⟨[tI 3 u51, tB 7 (decide (u51 < 0))], [], []⟩ ?_
  rcases oif h with ⟨h7, h⟩ | ⟨h7, h⟩
  · refine Wc.cT h7 ?_
    apply Wc.seq
    refine Wc.r0 ⟨[tI 2 401], [], []⟩ ?_
    obtain rfl := Option.some.inj h; exact Wc.ret dn
  · refine Wc.cF h7 ?_
    refine Wc.fx [] ⟨[tI 3 u51], [], []⟩ ?_
    refine Wc.skip ?_
    apply Wc.seq
    refine Wc.r0 ⟨[tI 2 (wr.i64 (401 - u51))], [], []⟩ ?_
    obtain rfl := Option.some.inj h; exact Wc.ret dn

def pspec_SameTerm_L1 (k : Nat) (rspec_SameTerm : GTerm → GTerm → Option Bool) (vd : GTerm) (vn : GTerm) : Nat → Int → Option (Out Bool Unit)
  | 0, _ => none
  | m + 1, u31 =>
    if (decide (u31 < (vd.gKids.length : Int))) = true then
      (at' vd.gKids u31).bind fun u94 =>
      (at' vn.gKids u31).bind fun u95 =>
      (rspec_SameTerm u94 u95).bind fun ubs =>
      if (!ubs) = true then
        some (.ret false)
      else
        pspec_SameTerm_L1 k rspec_SameTerm vd vn m (wr.i64 (u31 + 1))
    else
      some (.done ())
mutual
def pspec_SameTerm : Nat → GTerm → GTerm → Option Bool
  | 0, _, _ => none
  | k + 1, vd, vn =>
    if (vd.gKind != vn.gKind) = true then
      some false
    else
      if (!(sEq vd.gName vn.gName)) = true then
        some false
      else
        if (vd.gNum != vn.gNum) = true then
          some false
        else
          if ((vd.gKids.length : Int) != (vn.gKids.length : Int)) = true then
            some false
          else
            (pspec_SameTerm_L1 k (pspec_SameTerm k) vd vn k 0).bind fun out1 => match out1 with
            | .ret r => some r
            | .done () =>
              some true
end
theorem all_pspec_SameTerm : ∀ k : Nat, (∀ {vd : GTerm} {vn : GTerm} {r : Bool}, pspec_SameTerm k vd vn = some r → FnO Try.prog 25 [.v (.agg (GTerm.q vd)) [], .v (.agg (GTerm.q vn)) []] (.v (.bool r) []) []) := by
  intro k
  induction k with
  | zero =>
    · intro vd vn r h
      exact (onone (by rw [pspec_SameTerm] at h; exact h)).elim
  | succ k ih =>
    have ih_pspec_SameTerm := @ih
    · intro vd vn r h
      rw [pspec_SameTerm] at h
      refine FnO.o2 Try.func25 (rfl : Try.f25.body = some _) ?_
      intro w0 X0 Fin pv0 pb
      apply Wc.seq
      refine Wc.r0 ⟨[tP 2 2, tP 3 3], [bC 2 (GTerm.q vd), bC 3 (GTerm.q vn)], []⟩ ?_
      apply Wc.seq
      apply Wc.seq
      rcases oif h with ⟨h8, h⟩ | ⟨h8, h⟩
      · refine Wc.r2 [{}, {}, {}, {}, {}, { re := some (.bool true) }] ⟨[tP 2 2, tP 3 3, tB 33 true], [bC 2 (GTerm.q vd), bC 3 (GTerm.q vn)], []⟩ (.cons (congrArg AV.bool h8) .nil) ?_
        refine Wc.cT rfl ?_
        apply Wc.seq
        refine Wc.r0 ⟨[tB 4 false], [], []⟩ ?_
        obtain rfl := Option.some.inj h; exact Wc.ret dn
      · rcases oif h with ⟨h9, h⟩ | ⟨h9, h⟩
        · refine Wc.r2 [{}, {}, {}, {}, {}, { re := some (.bool false) }, {}, {}, {}, {}, {}, {}, { re := some (.bool true) }] ⟨[tP 2 2, tP 3 3, tB 33 true], [bC 2 (GTerm.q vd), bC 3 (GTerm.q vn)], []⟩ (.cons (congrArg AV.bool h8) (.cons (congrArg AV.bool h9) .nil)) ?_
          refine Wc.cT rfl ?_
          apply Wc.seq
          refine Wc.r0 ⟨[tB 4 false], [], []⟩ ?_
          obtain rfl := Option.some.inj h; exact Wc.ret dn
        · rcases oif h with ⟨h10, h⟩ | ⟨h10, h⟩
          · refine Wc.r2 [{}, {}, {}, {}, {}, { re := some (.bool false) }, {}, {}, {}, {}, {}, {}, { re := some (.bool false) }, {}, {}, {}, {}, {}, {}, { re := some (.bool true) }] ⟨[tP 2 2, tP 3 3, tB 33 true], [bC 2 (GTerm.q vd), bC 3 (GTerm.q vn)], []⟩ (.cons (congrArg AV.bool h8) (.cons (congrArg AV.bool h9) (.cons (congrArg AV.bool h10) .nil))) ?_
            refine Wc.cT rfl ?_
            apply Wc.seq
            refine Wc.r0 ⟨[tB 4 false], [], []⟩ ?_
            obtain rfl := Option.some.inj h; exact Wc.ret dn
          · refine Wc.r2 [{}, {}, {}, {}, {}, { re := some (.bool false) }, {}, {}, {}, {}, {}, {}, { re := some (.bool false) }, {}, {}, {}, {}, {}, {}, { re := some (.bool false) }, {}, {}, { v := some (aI (vd.gKids.length : Int)) }, {}, {}, { v := some (aI (vn.gKids.length : Int)) }] ⟨[tP 2 2, tP 3 3, tB 33 ((vd.gKids.length : Int) != (vn.gKids.length : Int))], [bC 2 (GTerm.q vd), bC 3 (GTerm.q vn)], []⟩ (.cons (congrArg AV.bool h8) (.cons (congrArg AV.bool h9) (.cons (congrArg AV.bool h10) (.cons (len_obl GTerm.c vd.gKids) (.cons (len_obl GTerm.c vn.gKids) .nil))))) ?_
            rcases oif h with ⟨h11, h⟩ | ⟨h11, h⟩
            · refine Wc.cT h11 ?_
              apply Wc.seq
              refine Wc.r0 ⟨[tB 4 false], [], []⟩ ?_
              obtain rfl := Option.some.inj h; exact Wc.ret dn
            · refine Wc.cF h11 ?_
              refine Wc.fx [] ⟨[tP 2 2, tP 3 3], [bC 2 (GTerm.q vd), bC 3 (GTerm.q vn)], []⟩ ?_
              refine Wc.skip ?_
              apply Wc.seq
              apply Wc.seq
              refine Wc.r0 ⟨[tP 2 2, tP 3 3, tI 5 0], [bC 2 (GTerm.q vd), bC 3 (GTerm.q vn)], []⟩ ?_
              obtain ⟨out1, h12, h⟩ := obind h
              refine Wc.lastJ (fun st => out1 = .done () ∧ st = ⟨[], [], []⟩) ?_ ?_
              · refine Wc.block ?_
                refine Wc.loop (fun m st => ∃ (u31 : Int), st = ⟨[tP 2 2, tP 3 3, tI 5 u31], [bC 2 (GTerm.q vd), bC 3 (GTerm.q vn)], []⟩ ∧ pspec_SameTerm_L1 k (pspec_SameTerm k) vd vn m u31 = some out1) ?_ k ⟨_, rfl, h12⟩
                rintro m st ⟨u31, rfl, h12⟩
                cases m with
                | zero => exact (onone h12).elim
                | succ m =>
                  apply Wc.seq
                  apply Wc.seq
                  refine Wc.r2 [{}, {}, {}, { v := some (aI (vd.gKids.length : Int)) }] ⟨[tP 2 2, tP 3 3, tI 5 u31, tB 38 (decide (u31 < (vd.gKids.length : Int)))], [bC 2 (GTerm.q vd), bC 3 (GTerm.q vn)], []⟩ (.cons (len_obl GTerm.c vd.gKids) .nil) ?_
                  rcases oif h12 with ⟨h13, h12⟩ | ⟨h13, h12⟩
                  · refine Wc.cT h13 ?_
                    refine Wc.fx [] ⟨[tP 2 2, tP 3 3, tI 5 u31], [bC 2 (GTerm.q vd), bC 3 (GTerm.q vn)], []⟩ ?_
                    refine Wc.skip ?_
                    apply Wc.seq
                    refine Wc.block ?_
                    apply Wc.seq
                    obtain ⟨u94, h14, h12⟩ := obind h12
                    obtain ⟨u95, h15, h12⟩ := obind h12
                    obtain ⟨ubs, h16, h12⟩ := obind h12
                    refine Wc.draw hmix [{}, {}, {}, { v := some (.vptr (GTerm.q u94)) }, {}, {}, {}, {}, { v := some (.vptr (GTerm.q u95)) }, {}, { r := some (.v (.bool ubs) []) }] [] [2, 3, 5, 52] [2, 3] [] ⟨[tP 2 2, tP 3 3, tI 5 u31, tB 52 (!ubs)], [bC 2 (GTerm.q vd), bC 3 (GTerm.q vn)], []⟩ _ (by kernel_rfl) (fun X => by kernel_rfl) (.cons (at_obl (c := GTerm.c) (GTerm.c_eq u94) GTerm.c_len h14) (.cons (len_ok 4 (GTerm.q u94)) (.cons (at_obl (c := GTerm.c) (GTerm.c_eq u95) GTerm.c_len h15) (.cons (len_ok 4 (GTerm.q u95)) (.cons (ih_pspec_SameTerm h16) .nil))))) ?_
                    rcases oif h12 with ⟨h17, h12⟩ | ⟨h17, h12⟩
                    · refine Wc.cT h17 ?_
                      apply Wc.seq
                      refine Wc.r0 ⟨[tB 4 false], [], []⟩ ?_
                      refine Wc.ret ?_
                      obtain rfl := Option.some.inj h12
                      obtain rfl := Option.some.inj h
                      exact ⟨.inl rfl, by kernel_rfl, by kernel_rfl⟩
                    · refine Wc.cF h17 ?_
                      refine Wc.fx [] ⟨[tP 2 2, tP 3 3, tI 5 u31], [bC 2 (GTerm.q vd), bC 3 (GTerm.q vn)], []⟩ ?_
                      refine Wc.skip ?_
                      refine Wc.r0 ⟨[tP 2 2, tP 3 3, tI 5 (wr.i64 (u31 + 1))], [bC 2 (GTerm.q vd), bC 3 (GTerm.q vn)], []⟩ ?_
                      exact ⟨_, Nat.lt_succ_self _, _, rfl, h12⟩
                  · refine Wc.cF h13 ?_
                    refine Wc.fx [] ⟨[], [], []⟩ ?_
                    refine Wc.exit ?_
                    obtain rfl := Option.some.inj h12
                    exact ⟨rfl, rfl⟩
              · rintro st ⟨rfl, rfl⟩
                apply Wc.seq
                refine Wc.r0 ⟨[tB 4 true], [], []⟩ ?_
                obtain rfl := Option.some.inj h; exact Wc.ret dn
theorem cspec_SameTerm {k : Nat} {vd : GTerm} {vn : GTerm} {r : Bool} (h : pspec_SameTerm k vd vn = some r) : FnO Try.prog 25 [.v (.agg (GTerm.q vd)) [], .v (.agg (GTerm.q vn)) []] (.v (.bool r) []) [] := (all_pspec_SameTerm k) h

def pspec_l01New_L1 (k : Nat) (vr : List Int) : Nat → Int → Int → Option (Out GL01Cur Int)
  | 0, _, _ => none
  | m + 1, u32, u33 =>
    if (decide (u33 < (vr.length : Int))) = true then
      if (decide (u33 < 4000)) = true then
        (at' vr u33).bind fun u73 =>
        pspec_l01New_L1 k vr m (band .i64 (wr.i64 ((wr.i64 ((wr.i64 (u32 * 131)) + (wr.i64 u73))) + 7)) 1073741823) (wr.i64 (u33 + 1))
      else
        some (.done u32)
    else
      some (.done u32)
def pspec_l01New (k : Nat) (vr : List Int) : Option GL01Cur :=
  (pspec_l01New_L1 k vr k (wr.i64 (95101 + (vr.length : Int))) 0).bind fun out1 => match out1 with
  | .ret r => some r
  | .done u74 =>
    some (GL01Cur.mk vr 0 u74)
theorem cspec_l01New {k : Nat} {vr : List Int} {r : GL01Cur} (h : pspec_l01New k vr = some r) : FnO Try.prog 63 [.v (.sl (List.map cI.u8 vr)) []] (.p (GL01Cur.q r) []) [] := by
  refine FnO.o2 Try.func63 (rfl : Try.f63.body = some _) ?_
  intro w0 X0 Fin pv0 pb
  unfold pspec_l01New at h
  apply Wc.seq
  refine Wc.r0 ⟨[tV 0 (.sl (List.map cI.u8 vr))], [], []⟩ ?_
  apply Wc.seq
  refine Wc.r2 [{}, { v := some (aI (vr.length : Int)) }] ⟨[tV 0 (.sl (List.map cI.u8 vr)), tI 3 (wr.i64 (95101 + (vr.length : Int)))], [], []⟩ (.cons (len_obl cI.u8 vr) .nil) ?_
  apply Wc.seq
  apply Wc.seq
  refine Wc.r0 ⟨[tV 0 (.sl (List.map cI.u8 vr)), tI 3 (wr.i64 (95101 + (vr.length : Int))), tI 4 0], [], []⟩ ?_
  obtain ⟨out1, h18, h⟩ := obind h
  refine Wc.lastJ (fun st => ∃ (u74 : Int), out1 = .done u74 ∧ st = ⟨[tV 0 (.sl (List.map cI.u8 vr)), tI 3 u74], [], []⟩) ?_ ?_
  · refine Wc.block ?_
    refine Wc.loop (fun m st => ∃ (u32 : Int) (u33 : Int), st = ⟨[tV 0 (.sl (List.map cI.u8 vr)), tI 3 u32, tI 4 u33], [], []⟩ ∧ pspec_l01New_L1 k vr m u32 u33 = some out1) ?_ k ⟨_, _, rfl, h18⟩
    rintro m st ⟨u32, u33, rfl, h18⟩
    cases m with
    | zero => exact (onone h18).elim
    | succ m =>
      apply Wc.seq
      apply Wc.seq
      rcases oif h18 with ⟨h19, h18⟩ | ⟨h19, h18⟩
      · refine Wc.r2 [{}, {}, { v := some (aI (vr.length : Int)) }, {}, { re := some (.bool true) }] ⟨[tV 0 (.sl (List.map cI.u8 vr)), tI 3 u32, tI 4 u33, tB 15 (decide (u33 < 4000))], [], []⟩ (.cons (len_obl cI.u8 vr) (.cons (congrArg AV.bool h19) .nil)) ?_
        rcases oif h18 with ⟨h20, h18⟩ | ⟨h20, h18⟩
        · refine Wc.cT h20 ?_
          refine Wc.fx [] ⟨[tV 0 (.sl (List.map cI.u8 vr)), tI 3 u32, tI 4 u33], [], []⟩ ?_
          refine Wc.skip ?_
          apply Wc.seq
          refine Wc.block ?_
          obtain ⟨u73, h21, h18⟩ := obind h18
          refine Wc.r2 [{}, {}, {}, {}, { v := some (.vptr [.int .u8 u73]) }] ⟨[tV 0 (.sl (List.map cI.u8 vr)), tI 3 (band .i64 (wr.i64 ((wr.i64 ((wr.i64 (u32 * 131)) + (wr.i64 u73))) + 7)) 1073741823), tI 4 u33], [], []⟩ (.cons (at_obl (c := cI.u8) rfl cI.u8_len h21) (.cons (len_ok 1 [.int .u8 u73]) .nil)) ?_
          refine Wc.r0 ⟨[tV 0 (.sl (List.map cI.u8 vr)), tI 3 (band .i64 (wr.i64 ((wr.i64 ((wr.i64 (u32 * 131)) + (wr.i64 u73))) + 7)) 1073741823), tI 4 (wr.i64 (u33 + 1))], [], []⟩ ?_
          exact ⟨_, Nat.lt_succ_self _, _, _, rfl, h18⟩
        · refine Wc.cF h20 ?_
          refine Wc.fx [] ⟨[tV 0 (.sl (List.map cI.u8 vr)), tI 3 u32], [], []⟩ ?_
          refine Wc.exit ?_
          obtain rfl := Option.some.inj h18
          exact ⟨_, rfl, rfl⟩
      · refine Wc.r2 [{}, {}, { v := some (aI (vr.length : Int)) }, {}, { re := some (.bool false) }] ⟨[tV 0 (.sl (List.map cI.u8 vr)), tI 3 u32, tI 4 u33, tB 15 false], [], []⟩ (.cons (len_obl cI.u8 vr) (.cons (congrArg AV.bool h19) .nil)) ?_
        refine Wc.cF rfl ?_
        refine Wc.fx [] ⟨[tV 0 (.sl (List.map cI.u8 vr)), tI 3 u32], [], []⟩ ?_
        refine Wc.exit ?_
        obtain rfl := Option.some.inj h18
        exact ⟨_, rfl, rfl⟩
  · rintro st ⟨u74, rfl, rfl⟩
    apply Wc.seq
    refine Wc.r0 ⟨[tP 2 31], [bC 31 [.sl (List.map cI.u8 vr), aI 0, aI u74]], []⟩ ?_
    obtain rfl := Option.some.inj h; exact Wc.ret dn

def pspec_l03Atom (k : Nat) (u75 : ByteArray) : Option GTerm :=
  some (GTerm.mk 2 u75 0 [])
theorem cspec_l03Atom {k : Nat} {u75 : ByteArray} {r : GTerm} (h : pspec_l03Atom k u75 = some r) : FnO Try.prog 95 [.v (.str u75) []] (.v (.agg (GTerm.q r)) [(3, .app 41)]) [] := by
  refine FnO.o2 Try.func95 (rfl : Try.f95.body = some _) ?_
  intro w0 X0 Fin pv0 pb
  unfold pspec_l03Atom at h
  apply Wc.seq
  refine Wc.r0 ⟨[tS 0 u75, tP 2 2], [(2, .cells GTerm.z [(3, .app 41)])], []⟩ ?_
  apply Wc.seq
  refine Wc.r1 [{}, {}, { tk := [4] }] ⟨[tP 2 2], [(2, .cells [aI 2, .str u75, aI 0, .sl (List.map GTerm.c [])] [(3, .app 41)])], []⟩ ?_
  obtain rfl := Option.some.inj h; exact Wc.ret dn

def pspec_l01In (k : Nat) (u6a : Int) (u96 : Int) (u76 : Int) : Option Bool :=
  if (decide (u6a ≥ u96)) = true then
    some (decide (u6a ≤ u76))
  else
    some false
theorem cspec_l01In {k : Nat} {u6a : Int} {u96 : Int} {u76 : Int} {r : Bool} (h : pspec_l01In k u6a u96 u76 = some r) : FnO Try.prog 128 [.v (aI u6a) [], .v (aI u96) [], .v (aI u76) []] (.v (.bool r) []) [] := by
  refine FnO.o2 Try.func128 (rfl : Try.f128.body = some _) ?_
  intro w0 X0 Fin pv0 pb
  unfold pspec_l01In at h
  apply Wc.seq
  refine Wc.r0 ⟨[tI 0 u6a, tI 1 u96, tI 2 u76], [], []⟩ ?_
  apply Wc.seq
  rcases oif h with ⟨h22, h⟩ | ⟨h22, h⟩
  · refine Wc.r2 [{}, {}, {}, { re := some (.bool true) }] ⟨[tB 6 (decide (u6a ≤ u76))], [], []⟩ (.cons (congrArg AV.bool h22) .nil) ?_
    obtain rfl := Option.some.inj h; exact Wc.ret dn
  · refine Wc.r2 [{}, {}, {}, { re := some (.bool false) }] ⟨[tB 6 false], [], []⟩ (.cons (congrArg AV.bool h22) .nil) ?_
    obtain rfl := Option.some.inj h; exact Wc.ret dn

def pspec_l03Name_L1 (k : Nat) (vs : ByteArray) : Nat → Int → Option (Out Bool Unit)
  | 0, _ => none
  | m + 1, z8 =>
    if (decide (z8 < (vs.size : Int))) = true then
      if 0 ≤ z8 ∧ (z8).toNat < vs.size then
        if (decide ((bt vs z8) < 33)) = true then
          some (.ret false)
        else
          if 0 ≤ z8 ∧ (z8).toNat < vs.size then
            if (decide ((bt vs z8) > 126)) = true then
              some (.ret false)
            else
              if 0 ≤ z8 ∧ (z8).toNat < vs.size then
                if ((bt vs z8) == 39) = true then
                  some (.ret false)
                else
                  if 0 ≤ z8 ∧ (z8).toNat < vs.size then
                    if ((bt vs z8) == 34) = true then
                      some (.ret false)
                    else
                      pspec_l03Name_L1 k vs m (wr.i64 (z8 + 1))
                  else none
              else none
          else none
      else none
    else
      some (.done ())
def pspec_l03Name (k : Nat) (vs : ByteArray) : Option Bool :=
  (pspec_l03Name_L1 k vs k 0).bind fun out1 => match out1 with
  | .ret r => some r
  | .done () =>
    (pspec_l01In k (vs.size : Int) 1 20).bind fun ubt =>
    some ubt
theorem cspec_l03Name {k : Nat} {vs : ByteArray} {r : Bool} (h : pspec_l03Name k vs = some r) : FnO Try.prog 93 [.v (.str vs) []] (.v (.bool r) []) [] := by
  refine FnO.o2 Try.func93 (rfl : Try.f93.body = some _) ?_
  intro w0 X0 Fin pv0 pb
  unfold pspec_l03Name at h
  apply Wc.seq
  refine Wc.r0 ⟨[tS 0 vs], [], []⟩ ?_
  apply Wc.seq
  apply Wc.seq
  refine Wc.r0 ⟨[tS 0 vs, tI 3 0], [], []⟩ ?_
  obtain ⟨out1, h23, h⟩ := obind h
  refine Wc.lastJ (fun st => out1 = .done () ∧ st = ⟨[tS 0 vs], [], []⟩) ?_ ?_
  · refine Wc.block ?_
    refine Wc.loop (fun m st => ∃ (z8 : Int), st = ⟨[tS 0 vs, tI 3 z8], [], []⟩ ∧ pspec_l03Name_L1 k vs m z8 = some out1) ?_ k ⟨_, rfl, h23⟩
    rintro m st ⟨z8, rfl, h23⟩
    cases m with
    | zero => exact (onone h23).elim
    | succ m =>
      apply Wc.seq
      apply Wc.seq
      refine Wc.r0 ⟨[tS 0 vs, tI 3 z8, tB 7 (decide (z8 < (vs.size : Int)))], [], []⟩ ?_
      rcases oif h23 with ⟨h24, h23⟩ | ⟨h24, h23⟩
      · refine Wc.cT h24 ?_
        refine Wc.fx [] ⟨[tS 0 vs, tI 3 z8], [], []⟩ ?_
        refine Wc.skip ?_
        apply Wc.seq
        refine Wc.block ?_
        apply Wc.seq
        obtain ⟨h25, h23⟩ := oguard h23
        rcases oif h23 with ⟨h26, h23⟩ | ⟨h26, h23⟩
        · refine Wc.r2 [{}, {}, {}, {}, { re := some (.bool true) }] ⟨[tS 0 vs, tI 3 z8, tB 31 true], [], []⟩ (.cons h25 (.cons (congrArg AV.bool h26) .nil)) ?_
          refine Wc.cT rfl ?_
          apply Wc.seq
          refine Wc.r0 ⟨[tB 2 false], [], []⟩ ?_
          refine Wc.ret ?_
          obtain rfl := Option.some.inj h23
          obtain rfl := Option.some.inj h
          exact ⟨.inl rfl, by kernel_rfl, by kernel_rfl⟩
        · obtain ⟨h27, h23⟩ := oguard h23
          rcases oif h23 with ⟨h28, h23⟩ | ⟨h28, h23⟩
          · refine Wc.r2 [{}, {}, {}, {}, { re := some (.bool false) }, {}, {}, {}, {}, {}, { re := some (.bool true) }] ⟨[tS 0 vs, tI 3 z8, tB 31 true], [], []⟩ (.cons h25 (.cons (congrArg AV.bool h26) (.cons h27 (.cons (congrArg AV.bool h28) .nil)))) ?_
            refine Wc.cT rfl ?_
            apply Wc.seq
            refine Wc.r0 ⟨[tB 2 false], [], []⟩ ?_
            refine Wc.ret ?_
            obtain rfl := Option.some.inj h23
            obtain rfl := Option.some.inj h
            exact ⟨.inl rfl, by kernel_rfl, by kernel_rfl⟩
          · obtain ⟨h29, h23⟩ := oguard h23
            rcases oif h23 with ⟨h30, h23⟩ | ⟨h30, h23⟩
            · refine Wc.r2 [{}, {}, {}, {}, { re := some (.bool false) }, {}, {}, {}, {}, {}, { re := some (.bool false) }, {}, {}, {}, {}, {}, { re := some (.bool true) }] ⟨[tS 0 vs, tI 3 z8, tB 31 true], [], []⟩ (.cons h25 (.cons (congrArg AV.bool h26) (.cons h27 (.cons (congrArg AV.bool h28) (.cons h29 (.cons (congrArg AV.bool h30) .nil)))))) ?_
              refine Wc.cT rfl ?_
              apply Wc.seq
              refine Wc.r0 ⟨[tB 2 false], [], []⟩ ?_
              refine Wc.ret ?_
              obtain rfl := Option.some.inj h23
              obtain rfl := Option.some.inj h
              exact ⟨.inl rfl, by kernel_rfl, by kernel_rfl⟩
            · obtain ⟨h31, h23⟩ := oguard h23
              refine Wc.r2 [{}, {}, {}, {}, { re := some (.bool false) }, {}, {}, {}, {}, {}, { re := some (.bool false) }, {}, {}, {}, {}, {}, { re := some (.bool false) }] ⟨[tS 0 vs, tI 3 z8, tB 31 ((bt vs z8) == 34)], [], []⟩ (.cons h25 (.cons (congrArg AV.bool h26) (.cons h27 (.cons (congrArg AV.bool h28) (.cons h29 (.cons (congrArg AV.bool h30) (.cons h31 .nil))))))) ?_
              rcases oif h23 with ⟨h32, h23⟩ | ⟨h32, h23⟩
              · refine Wc.cT h32 ?_
                apply Wc.seq
                refine Wc.r0 ⟨[tB 2 false], [], []⟩ ?_
                refine Wc.ret ?_
                obtain rfl := Option.some.inj h23
                obtain rfl := Option.some.inj h
                exact ⟨.inl rfl, by kernel_rfl, by kernel_rfl⟩
              · refine Wc.cF h32 ?_
                refine Wc.fx [] ⟨[tS 0 vs, tI 3 z8], [], []⟩ ?_
                refine Wc.skip ?_
                refine Wc.r0 ⟨[tS 0 vs, tI 3 (wr.i64 (z8 + 1))], [], []⟩ ?_
                exact ⟨_, Nat.lt_succ_self _, _, rfl, h23⟩
      · refine Wc.cF h24 ?_
        refine Wc.fx [] ⟨[tS 0 vs], [], []⟩ ?_
        refine Wc.exit ?_
        obtain rfl := Option.some.inj h23
        exact ⟨rfl, rfl⟩
  · rintro st ⟨rfl, rfl⟩
    apply Wc.seq
    obtain ⟨ubt, h33, h⟩ := obind h
    refine Wc.r2 [{}, {}, { r := some (.v (.bool ubt) []) }] ⟨[tB 2 ubt], [], []⟩ (.cons (cspec_l01In h33) .nil) ?_
    obtain rfl := Option.some.inj h; exact Wc.ret dn

def pspec_l03One (k : Nat) (v3 : GTerm) : Option Bool :=
  if (v3.gKind == 1) = true then
    (pspec_l01In k v3.gNum 0 99999).bind fun u97 =>
    if u97 = true then
      if (sEq v3.gName (bs [])) = true then
        some ((v3.gKids.length : Int) == 0)
      else
        some false
    else
      some false
  else
    if (v3.gKind == 2) = true then
      (pspec_l03Name k v3.gName).bind fun u98 =>
      if u98 = true then
        if (v3.gNum == 0) = true then
          some ((v3.gKids.length : Int) == 0)
        else
          some false
      else
        some false
    else
      if (v3.gKind == 3) = true then
        (pspec_l01In k v3.gNum (-999999999) 999999999).bind fun u99 =>
        if u99 = true then
          if (sEq v3.gName (bs [])) = true then
            some ((v3.gKids.length : Int) == 0)
          else
            some false
        else
          some false
      else
        if (v3.gKind == 4) = true then
          (pspec_l03Name k v3.gName).bind fun u9a =>
          if u9a = true then
            if (v3.gNum == 0) = true then
              (pspec_l01In k (v3.gKids.length : Int) 1 5).bind fun ubu =>
              some ubu
            else
              some false
          else
            some false
        else
          some false
theorem cspec_l03One {k : Nat} {v3 : GTerm} {r : Bool} (h : pspec_l03One k v3 = some r) : FnO Try.prog 169 [.v (.agg (GTerm.q v3)) []] (.v (.bool r) []) [] := by
  refine FnO.o2 Try.func169 (rfl : Try.f169.body = some _) ?_
  intro w0 X0 Fin pv0 pb
  unfold pspec_l03One at h
  apply Wc.seq
  refine Wc.r0 ⟨[tP 1 1], [bC 1 (GTerm.q v3)], []⟩ ?_
  apply Wc.seq
  apply Wc.seq
  refine Wc.r0 ⟨[tP 1 1, tI 4 v3.gKind], [bC 1 (GTerm.q v3)], []⟩ ?_
  refine Wc.block ?_
  apply Wc.seq
  refine Wc.r0 ⟨[tP 1 1, tI 4 v3.gKind, tB 5 (v3.gKind == 1)], [bC 1 (GTerm.q v3)], []⟩ ?_
  rcases oif h with ⟨h34, h⟩ | ⟨h34, h⟩
  · refine Wc.cT h34 ?_
    apply Wc.seq
    obtain ⟨u97, h35, h⟩ := obind h
    rcases oif h with ⟨h36, h⟩ | ⟨h36, h⟩
    · rcases oif h with ⟨h37, h⟩ | ⟨h37, h⟩
      · refine Wc.r2 [{}, {}, { r := some (.v (.bool u97) []) }, { re := some (.bool true) }, {}, {}, {}, {}, { re := some (.bool true) }, {}, {}, { v := some (aI (v3.gKids.length : Int)) }] ⟨[tB 2 ((v3.gKids.length : Int) == 0)], [], []⟩ (.cons (cspec_l01In h35) (.cons (congrArg AV.bool h36) (.cons (congrArg AV.bool h37) (.cons (len_obl GTerm.c v3.gKids) .nil)))) ?_
        obtain rfl := Option.some.inj h; exact Wc.ret dn
      · refine Wc.r2 [{}, {}, { r := some (.v (.bool u97) []) }, { re := some (.bool true) }, {}, {}, {}, {}, { re := some (.bool false) }] ⟨[tB 2 false], [], []⟩ (.cons (cspec_l01In h35) (.cons (congrArg AV.bool h36) (.cons (congrArg AV.bool h37) .nil))) ?_
        obtain rfl := Option.some.inj h; exact Wc.ret dn
    · refine Wc.r2 [{}, {}, { r := some (.v (.bool u97) []) }, { re := some (.bool false) }] ⟨[tB 2 false], [], []⟩ (.cons (cspec_l01In h35) (.cons (congrArg AV.bool h36) .nil)) ?_
      obtain rfl := Option.some.inj h; exact Wc.ret dn
  · refine Wc.cF h34 ?_
    apply Wc.seq
    refine Wc.r0 ⟨[tP 1 1, tI 4 v3.gKind, tB 21 (v3.gKind == 2)], [bC 1 (GTerm.q v3)], []⟩ ?_
    rcases oif h with ⟨h38, h⟩ | ⟨h38, h⟩
    · refine Wc.cT h38 ?_
      apply Wc.seq
      obtain ⟨u98, h39, h⟩ := obind h
      rcases oif h with ⟨h40, h⟩ | ⟨h40, h⟩
      · rcases oif h with ⟨h41, h⟩ | ⟨h41, h⟩
        · refine Wc.r2 [{}, {}, { r := some (.v (.bool u98) []) }, { re := some (.bool true) }, {}, {}, {}, {}, { re := some (.bool true) }, {}, {}, { v := some (aI (v3.gKids.length : Int)) }] ⟨[tB 2 ((v3.gKids.length : Int) == 0)], [], []⟩ (.cons (cspec_l03Name h39) (.cons (congrArg AV.bool h40) (.cons (congrArg AV.bool h41) (.cons (len_obl GTerm.c v3.gKids) .nil)))) ?_
          obtain rfl := Option.some.inj h; exact Wc.ret dn
        · refine Wc.r2 [{}, {}, { r := some (.v (.bool u98) []) }, { re := some (.bool true) }, {}, {}, {}, {}, { re := some (.bool false) }] ⟨[tB 2 false], [], []⟩ (.cons (cspec_l03Name h39) (.cons (congrArg AV.bool h40) (.cons (congrArg AV.bool h41) .nil))) ?_
          obtain rfl := Option.some.inj h; exact Wc.ret dn
      · refine Wc.r2 [{}, {}, { r := some (.v (.bool u98) []) }, { re := some (.bool false) }] ⟨[tB 2 false], [], []⟩ (.cons (cspec_l03Name h39) (.cons (congrArg AV.bool h40) .nil)) ?_
        obtain rfl := Option.some.inj h; exact Wc.ret dn
    · refine Wc.cF h38 ?_
      apply Wc.seq
      refine Wc.r0 ⟨[tP 1 1, tI 4 v3.gKind, tB 37 (v3.gKind == 3)], [bC 1 (GTerm.q v3)], []⟩ ?_
      rcases oif h with ⟨h42, h⟩ | ⟨h42, h⟩
      · refine Wc.cT h42 ?_
        apply Wc.seq
        obtain ⟨u99, h43, h⟩ := obind h
        rcases oif h with ⟨h44, h⟩ | ⟨h44, h⟩
        · rcases oif h with ⟨h45, h⟩ | ⟨h45, h⟩
          · refine Wc.r2 [{}, {}, { r := some (.v (.bool u99) []) }, { re := some (.bool true) }, {}, {}, {}, {}, { re := some (.bool true) }, {}, {}, { v := some (aI (v3.gKids.length : Int)) }] ⟨[tB 2 ((v3.gKids.length : Int) == 0)], [], []⟩ (.cons (cspec_l01In h43) (.cons (congrArg AV.bool h44) (.cons (congrArg AV.bool h45) (.cons (len_obl GTerm.c v3.gKids) .nil)))) ?_
            obtain rfl := Option.some.inj h; exact Wc.ret dn
          · refine Wc.r2 [{}, {}, { r := some (.v (.bool u99) []) }, { re := some (.bool true) }, {}, {}, {}, {}, { re := some (.bool false) }] ⟨[tB 2 false], [], []⟩ (.cons (cspec_l01In h43) (.cons (congrArg AV.bool h44) (.cons (congrArg AV.bool h45) .nil))) ?_
            obtain rfl := Option.some.inj h; exact Wc.ret dn
        · refine Wc.r2 [{}, {}, { r := some (.v (.bool u99) []) }, { re := some (.bool false) }] ⟨[tB 2 false], [], []⟩ (.cons (cspec_l01In h43) (.cons (congrArg AV.bool h44) .nil)) ?_
          obtain rfl := Option.some.inj h; exact Wc.ret dn
      · refine Wc.cF h42 ?_
        apply Wc.seq
        refine Wc.r0 ⟨[tP 1 1, tB 53 (v3.gKind == 4)], [bC 1 (GTerm.q v3)], []⟩ ?_
        rcases oif h with ⟨h46, h⟩ | ⟨h46, h⟩
        · refine Wc.cT h46 ?_
          apply Wc.seq
          obtain ⟨u9a, h47, h⟩ := obind h
          rcases oif h with ⟨h48, h⟩ | ⟨h48, h⟩
          · rcases oif h with ⟨h49, h⟩ | ⟨h49, h⟩
            · obtain ⟨ubu, h50, h⟩ := obind h
              refine Wc.r2 [{}, {}, { r := some (.v (.bool u9a) []) }, { re := some (.bool true) }, {}, {}, {}, {}, { re := some (.bool true) }, {}, {}, { v := some (aI (v3.gKids.length : Int)) }, { r := some (.v (.bool ubu) []) }] ⟨[tB 2 ubu], [], []⟩ (.cons (cspec_l03Name h47) (.cons (congrArg AV.bool h48) (.cons (congrArg AV.bool h49) (.cons (len_obl GTerm.c v3.gKids) (.cons (cspec_l01In h50) .nil))))) ?_
              obtain rfl := Option.some.inj h; exact Wc.ret dn
            · refine Wc.r2 [{}, {}, { r := some (.v (.bool u9a) []) }, { re := some (.bool true) }, {}, {}, {}, {}, { re := some (.bool false) }] ⟨[tB 2 false], [], []⟩ (.cons (cspec_l03Name h47) (.cons (congrArg AV.bool h48) (.cons (congrArg AV.bool h49) .nil))) ?_
              obtain rfl := Option.some.inj h; exact Wc.ret dn
          · refine Wc.r2 [{}, {}, { r := some (.v (.bool u9a) []) }, { re := some (.bool false) }] ⟨[tB 2 false], [], []⟩ (.cons (cspec_l03Name h47) (.cons (congrArg AV.bool h48) .nil)) ?_
            obtain rfl := Option.some.inj h; exact Wc.ret dn
        · refine Wc.cF h46 ?_
          refine Wc.fx [] ⟨[], [], []⟩ ?_
          refine Wc.skip ?_
          apply Wc.seq
          refine Wc.r0 ⟨[tB 2 false], [], []⟩ ?_
          obtain rfl := Option.some.inj h; exact Wc.ret dn

def pspec_l03Right_L1 (k : Nat) (rspec_l03Right : GTerm → Int → Option Bool) (z4 : GTerm) (zx : Int) : Nat → Int → Option (Out Bool Unit)
  | 0, _ => none
  | m + 1, u3f =>
    if (decide (u3f < (z4.gKids.length : Int))) = true then
      (at' z4.gKids u3f).bind fun u9b =>
      (rspec_l03Right u9b (wr.i64 (zx + 1))).bind fun ubv =>
      if (!ubv) = true then
        some (.ret false)
      else
        pspec_l03Right_L1 k rspec_l03Right z4 zx m (wr.i64 (u3f + 1))
    else
      some (.done ())
mutual
def pspec_l03Right : Nat → GTerm → Int → Option Bool
  | 0, _, _ => none
  | k + 1, z4, zx =>
    if (decide (zx > 40)) = true then
      some false
    else
      (pspec_l03One k z4).bind fun ubw =>
      if (!ubw) = true then
        some false
      else
        (pspec_l03Right_L1 k (pspec_l03Right k) z4 zx k 0).bind fun out1 => match out1 with
        | .ret r => some r
        | .done () =>
          some true
end
theorem all_pspec_l03Right : ∀ k : Nat, (∀ {z4 : GTerm} {zx : Int} {r : Bool}, pspec_l03Right k z4 zx = some r → FnO Try.prog 151 [.v (.agg (GTerm.q z4)) [], .v (aI zx) []] (.v (.bool r) []) []) := by
  intro k
  induction k with
  | zero =>
    · intro z4 zx r h
      exact (onone (by rw [pspec_l03Right] at h; exact h)).elim
  | succ k ih =>
    have ih_pspec_l03Right := @ih
    · intro z4 zx r h
      rw [pspec_l03Right] at h
      refine FnO.o2 Try.func151 (rfl : Try.f151.body = some _) ?_
      intro w0 X0 Fin pv0 pb
      apply Wc.seq
      refine Wc.r0 ⟨[tI 1 zx, tP 2 2], [bC 2 (GTerm.q z4)], []⟩ ?_
      apply Wc.seq
      apply Wc.seq
      rcases oif h with ⟨h51, h⟩ | ⟨h51, h⟩
      · refine Wc.r2 [{}, {}, { re := some (.bool true) }] ⟨[tI 1 zx, tP 2 2, tB 12 true], [bC 2 (GTerm.q z4)], []⟩ (.cons (congrArg AV.bool h51) .nil) ?_
        refine Wc.cT rfl ?_
        apply Wc.seq
        refine Wc.r0 ⟨[tB 4 false], [], []⟩ ?_
        obtain rfl := Option.some.inj h; exact Wc.ret dn
      · obtain ⟨ubw, h52, h⟩ := obind h
        refine Wc.r2 [{}, {}, { re := some (.bool false) }, {}, { r := some (.v (.bool ubw) []) }] ⟨[tI 1 zx, tP 2 2, tB 12 (!ubw)], [bC 2 (GTerm.q z4)], []⟩ (.cons (congrArg AV.bool h51) (.cons (cspec_l03One h52) .nil)) ?_
        rcases oif h with ⟨h53, h⟩ | ⟨h53, h⟩
        · refine Wc.cT h53 ?_
          apply Wc.seq
          refine Wc.r0 ⟨[tB 4 false], [], []⟩ ?_
          obtain rfl := Option.some.inj h; exact Wc.ret dn
        · refine Wc.cF h53 ?_
          refine Wc.fx [] ⟨[tI 1 zx, tP 2 2], [bC 2 (GTerm.q z4)], []⟩ ?_
          refine Wc.skip ?_
          apply Wc.seq
          apply Wc.seq
          refine Wc.r0 ⟨[tI 1 zx, tP 2 2, tI 5 0], [bC 2 (GTerm.q z4)], []⟩ ?_
          obtain ⟨out1, h54, h⟩ := obind h
          refine Wc.lastJ (fun st => out1 = .done () ∧ st = ⟨[], [], []⟩) ?_ ?_
          · refine Wc.block ?_
            refine Wc.loop (fun m st => ∃ (u3f : Int), st = ⟨[tI 1 zx, tP 2 2, tI 5 u3f], [bC 2 (GTerm.q z4)], []⟩ ∧ pspec_l03Right_L1 k (pspec_l03Right k) z4 zx m u3f = some out1) ?_ k ⟨_, rfl, h54⟩
            rintro m st ⟨u3f, rfl, h54⟩
            cases m with
            | zero => exact (onone h54).elim
            | succ m =>
              apply Wc.seq
              apply Wc.seq
              refine Wc.r2 [{}, {}, {}, { v := some (aI (z4.gKids.length : Int)) }] ⟨[tI 1 zx, tP 2 2, tI 5 u3f, tB 17 (decide (u3f < (z4.gKids.length : Int)))], [bC 2 (GTerm.q z4)], []⟩ (.cons (len_obl GTerm.c z4.gKids) .nil) ?_
              rcases oif h54 with ⟨h55, h54⟩ | ⟨h55, h54⟩
              · refine Wc.cT h55 ?_
                refine Wc.fx [] ⟨[tI 1 zx, tP 2 2, tI 5 u3f], [bC 2 (GTerm.q z4)], []⟩ ?_
                refine Wc.skip ?_
                apply Wc.seq
                refine Wc.block ?_
                apply Wc.seq
                obtain ⟨u9b, h56, h54⟩ := obind h54
                obtain ⟨ubv, h57, h54⟩ := obind h54
                refine Wc.r2 [{}, {}, {}, { v := some (.vptr (GTerm.q u9b)) }, {}, {}, {}, { r := some (.v (.bool ubv) []) }] ⟨[tI 1 zx, tP 2 2, tI 5 u3f, tB 28 (!ubv)], [bC 2 (GTerm.q z4)], []⟩ (.cons (at_obl (c := GTerm.c) (GTerm.c_eq u9b) GTerm.c_len h56) (.cons (len_ok 4 (GTerm.q u9b)) (.cons (ih_pspec_l03Right h57) .nil))) ?_
                rcases oif h54 with ⟨h58, h54⟩ | ⟨h58, h54⟩
                · refine Wc.cT h58 ?_
                  apply Wc.seq
                  refine Wc.r0 ⟨[tB 4 false], [], []⟩ ?_
                  refine Wc.ret ?_
                  obtain rfl := Option.some.inj h54
                  obtain rfl := Option.some.inj h
                  exact ⟨.inl rfl, by kernel_rfl, by kernel_rfl⟩
                · refine Wc.cF h58 ?_
                  refine Wc.fx [] ⟨[tI 1 zx, tP 2 2, tI 5 u3f], [bC 2 (GTerm.q z4)], []⟩ ?_
                  refine Wc.skip ?_
                  refine Wc.r0 ⟨[tI 1 zx, tP 2 2, tI 5 (wr.i64 (u3f + 1))], [bC 2 (GTerm.q z4)], []⟩ ?_
                  exact ⟨_, Nat.lt_succ_self _, _, rfl, h54⟩
              · refine Wc.cF h55 ?_
                refine Wc.fx [] ⟨[], [], []⟩ ?_
                refine Wc.exit ?_
                obtain rfl := Option.some.inj h54
                exact ⟨rfl, rfl⟩
          · rintro st ⟨rfl, rfl⟩
            apply Wc.seq
            refine Wc.r0 ⟨[tB 4 true], [], []⟩ ?_
            obtain rfl := Option.some.inj h; exact Wc.ret dn
theorem cspec_l03Right {k : Nat} {z4 : GTerm} {zx : Int} {r : Bool} (h : pspec_l03Right k z4 zx = some r) : FnO Try.prog 151 [.v (.agg (GTerm.q z4)) [], .v (aI zx) []] (.v (.bool r) []) [] := (all_pspec_l03Right k) h

def pspec_TermOk (k : Nat) (u77 : GTerm) : Option Bool :=
  (pspec_l03Count k u77 400).bind fun ubx =>
  if (decide (ubx ≥ 0)) = true then
    (pspec_l03Right k u77 1).bind fun uby =>
    some uby
  else
    some false
theorem cspec_TermOk {k : Nat} {u77 : GTerm} {r : Bool} (h : pspec_TermOk k u77 = some r) : FnO Try.prog 103 [.v (.agg (GTerm.q u77)) []] (.v (.bool r) []) [] := by
  refine FnO.o2 Try.func103 (rfl : Try.f103.body = some _) ?_
  intro w0 X0 Fin pv0 pb
  unfold pspec_TermOk at h
  apply Wc.seq
  refine Wc.r0 ⟨[tP 1 1], [bC 1 (GTerm.q u77)], []⟩ ?_
  apply Wc.seq
  obtain ⟨ubx, h59, h⟩ := obind h
  rcases oif h with ⟨h60, h⟩ | ⟨h60, h⟩
  · obtain ⟨uby, h61, h⟩ := obind h
    refine Wc.r2 [{}, { r := some (.v (aI ubx) []) }, {}, { re := some (.bool true) }, {}, { r := some (.v (.bool uby) []) }] ⟨[tB 2 uby], [], []⟩ (.cons (cspec_l03Count h59) (.cons (congrArg AV.bool h60) (.cons (cspec_l03Right h61) .nil))) ?_
    obtain rfl := Option.some.inj h; exact Wc.ret dn
  · refine Wc.r2 [{}, { r := some (.v (aI ubx) []) }, {}, { re := some (.bool false) }] ⟨[tB 2 false], [], []⟩ (.cons (cspec_l03Count h59) (.cons (congrArg AV.bool h60) .nil)) ?_
    obtain rfl := Option.some.inj h; exact Wc.ret dn

def pspec_l01Byte (k : Nat) (uj : GL01Cur) : Option (GL01Cur × Int) :=
  if (decide (uj.gI < (uj.gB.length : Int))) = true then
    (at' uj.gB uj.gI).bind fun u6b =>
    some (GL01Cur.mk uj.gB (wr.i64 (uj.gI + 1)) (wr.i64 ((wr.i64 (uj.gH * 6364136223846793005)) + 1442695040888963407)), band .i64 (wr.i64 ((band .i64 (bxor .i64 (bshr .i64 (wr.i64 ((wr.i64 (uj.gH * 6364136223846793005)) + 1442695040888963407)) 33) (bshr .i64 (wr.i64 ((wr.i64 (uj.gH * 6364136223846793005)) + 1442695040888963407)) 45)) 255) + (wr.i64 u6b))) 255)
  else
    some (GL01Cur.mk uj.gB uj.gI (wr.i64 ((wr.i64 (uj.gH * 6364136223846793005)) + 1442695040888963407)), band .i64 (bxor .i64 (bshr .i64 (wr.i64 ((wr.i64 (uj.gH * 6364136223846793005)) + 1442695040888963407)) 33) (bshr .i64 (wr.i64 ((wr.i64 (uj.gH * 6364136223846793005)) + 1442695040888963407)) 45)) 255)
theorem cspec_l01Byte {k : Nat} {uj : GL01Cur} {r : GL01Cur × Int} (h : pspec_l01Byte k uj = some r) : FnO Try.prog 83 [.p (GL01Cur.q uj) []] (.v (aI r.2) []) [(0, .p (GL01Cur.q r.1) [])] := by
  refine FnO.o2 Try.func83 (rfl : Try.f83.body = some _) ?_
  intro w0 X0 Fin pv0 pb
  unfold pspec_l01Byte at h
  apply Wc.seq
  refine Wc.r0 ⟨[tP 0 1000000], [bC 1000000 (GL01Cur.q uj)], []⟩ ?_
  apply Wc.seq
  refine Wc.r0 ⟨[tP 0 1000000], [bC 1000000 [.sl (List.map cI.u8 uj.gB), aI uj.gI, aI (wr.i64 ((wr.i64 (uj.gH * 6364136223846793005)) + 1442695040888963407))]], []⟩ ?_
  apply Wc.seq
  refine Wc.draw hmix [] [] [0, 3] [1000000] [] ⟨[tP 0 1000000, tI 3 (band .i64 (bxor .i64 (bshr .i64 (wr.i64 ((wr.i64 (uj.gH * 6364136223846793005)) + 1442695040888963407)) 33) (bshr .i64 (wr.i64 ((wr.i64 (uj.gH * 6364136223846793005)) + 1442695040888963407)) 45)) 255)], [bC 1000000 [.sl (List.map cI.u8 uj.gB), aI uj.gI, aI (wr.i64 ((wr.i64 (uj.gH * 6364136223846793005)) + 1442695040888963407))]], []⟩ _ (by kernel_rfl) (fun X => by kernel_rfl) (.cons (show (0 : Int) ≤ 33 by decide) (.cons (show (0 : Int) ≤ 45 by decide) .nil)) ?_
  apply Wc.seq
  apply Wc.seq
  refine Wc.draw hmix [{}, {}, {}, {}, {}, {}, {}, {}, { v := some (aI (uj.gB.length : Int)) }] [] [0, 3, 34] [1000000] [] ⟨[tP 0 1000000, tI 3 (band .i64 (bxor .i64 (bshr .i64 (wr.i64 ((wr.i64 (uj.gH * 6364136223846793005)) + 1442695040888963407)) 33) (bshr .i64 (wr.i64 ((wr.i64 (uj.gH * 6364136223846793005)) + 1442695040888963407)) 45)) 255), tB 34 (decide (uj.gI < (uj.gB.length : Int)))], [bC 1000000 [.sl (List.map cI.u8 uj.gB), aI uj.gI, aI (wr.i64 ((wr.i64 (uj.gH * 6364136223846793005)) + 1442695040888963407))]], []⟩ _ (by kernel_rfl) (fun X => by kernel_rfl) (.cons (len_obl cI.u8 uj.gB) .nil) ?_
  rcases oif h with ⟨h62, h⟩ | ⟨h62, h⟩
  · refine Wc.cT h62 ?_
    apply Wc.seq
    obtain ⟨u6b, h63, h⟩ := obind h
    refine Wc.draw hmix [{}, {}, {}, {}, {}, {}, {}, {}, {}, { v := some (.vptr [.int .u8 u6b]) }] [] [0, 3] [1000000] [] ⟨[tP 0 1000000, tI 3 (band .i64 (wr.i64 ((band .i64 (bxor .i64 (bshr .i64 (wr.i64 ((wr.i64 (uj.gH * 6364136223846793005)) + 1442695040888963407)) 33) (bshr .i64 (wr.i64 ((wr.i64 (uj.gH * 6364136223846793005)) + 1442695040888963407)) 45)) 255) + (wr.i64 u6b))) 255)], [bC 1000000 [.sl (List.map cI.u8 uj.gB), aI uj.gI, aI (wr.i64 ((wr.i64 (uj.gH * 6364136223846793005)) + 1442695040888963407))]], []⟩ _ (by kernel_rfl) (fun X => by kernel_rfl) (.cons (at_obl (c := cI.u8) rfl cI.u8_len h63) (.cons (len_ok 1 [.int .u8 u6b]) .nil)) ?_
    refine Wc.r0 ⟨[tI 3 (band .i64 (wr.i64 ((band .i64 (bxor .i64 (bshr .i64 (wr.i64 ((wr.i64 (uj.gH * 6364136223846793005)) + 1442695040888963407)) 33) (bshr .i64 (wr.i64 ((wr.i64 (uj.gH * 6364136223846793005)) + 1442695040888963407)) 45)) 255) + (wr.i64 u6b))) 255)], [bC 1000000 [.sl (List.map cI.u8 uj.gB), aI (wr.i64 (uj.gI + 1)), aI (wr.i64 ((wr.i64 (uj.gH * 6364136223846793005)) + 1442695040888963407))]], []⟩ ?_
    apply Wc.seq
    refine Wc.r0 ⟨[tI 2 (band .i64 (wr.i64 ((band .i64 (bxor .i64 (bshr .i64 (wr.i64 ((wr.i64 (uj.gH * 6364136223846793005)) + 1442695040888963407)) 33) (bshr .i64 (wr.i64 ((wr.i64 (uj.gH * 6364136223846793005)) + 1442695040888963407)) 45)) 255) + (wr.i64 u6b))) 255)], [bC 1000000 [.sl (List.map cI.u8 uj.gB), aI (wr.i64 (uj.gI + 1)), aI (wr.i64 ((wr.i64 (uj.gH * 6364136223846793005)) + 1442695040888963407))]], []⟩ ?_
    obtain rfl := Option.some.inj h; exact Wc.ret dn
  · refine Wc.cF h62 ?_
    refine Wc.fx [] ⟨[tI 3 (band .i64 (bxor .i64 (bshr .i64 (wr.i64 ((wr.i64 (uj.gH * 6364136223846793005)) + 1442695040888963407)) 33) (bshr .i64 (wr.i64 ((wr.i64 (uj.gH * 6364136223846793005)) + 1442695040888963407)) 45)) 255)], [bC 1000000 [.sl (List.map cI.u8 uj.gB), aI uj.gI, aI (wr.i64 ((wr.i64 (uj.gH * 6364136223846793005)) + 1442695040888963407))]], []⟩ ?_
    refine Wc.skip ?_
    apply Wc.seq
    refine Wc.r0 ⟨[tI 2 (band .i64 (bxor .i64 (bshr .i64 (wr.i64 ((wr.i64 (uj.gH * 6364136223846793005)) + 1442695040888963407)) 33) (bshr .i64 (wr.i64 ((wr.i64 (uj.gH * 6364136223846793005)) + 1442695040888963407)) 45)) 255)], [bC 1000000 [.sl (List.map cI.u8 uj.gB), aI uj.gI, aI (wr.i64 ((wr.i64 (uj.gH * 6364136223846793005)) + 1442695040888963407))]], []⟩ ?_
    obtain rfl := Option.some.inj h; exact Wc.ret dn

def pspec_l01Below (k : Nat) (u3t : GL01Cur) (u0e : Int) : Option (GL01Cur × Int) :=
  if (decide (u0e ≤ 0)) = true then
    some (u3t, 0)
  else
    if (decide (u0e ≤ 256)) = true then
      (pspec_l01Byte k u3t).bind fun u6c =>
      if (u0e : Int) ≠ 0 then
        some (u6c.1, Int.tmod u6c.2 u0e)
      else none
    else
      (pspec_l01Byte k u3t).bind fun u48 =>
      (pspec_l01Byte k u48.1).bind fun u4p =>
      (pspec_l01Byte k u4p.1).bind fun u52 =>
      (pspec_l01Byte k u52.1).bind fun u53 =>
      if (u0e : Int) ≠ 0 then
        some (u53.1, Int.tmod (wr.i64 ((wr.i64 ((wr.i64 ((wr.i64 (u48.2 * 16777216)) + (wr.i64 (u4p.2 * 65536)))) + (wr.i64 (u52.2 * 256)))) + u53.2)) u0e)
      else none
theorem cspec_l01Below {k : Nat} {u3t : GL01Cur} {u0e : Int} {r : GL01Cur × Int} (h : pspec_l01Below k u3t u0e = some r) : FnO Try.prog 84 [.p (GL01Cur.q u3t) [], .v (aI u0e) []] (.v (aI r.2) []) [(0, .p (GL01Cur.q r.1) [])] := by
  refine FnO.o2 Try.func84 (rfl : Try.f84.body = some _) ?_
  intro w0 X0 Fin pv0 pb
  unfold pspec_l01Below at h
  apply Wc.seq
  refine Wc.r0 ⟨[tP 0 1000000, tI 1 u0e], [bC 1000000 (GL01Cur.q u3t)], []⟩ ?_
  apply Wc.seq
  apply Wc.seq
  refine Wc.r0 ⟨[tP 0 1000000, tI 1 u0e, tB 10 (decide (u0e ≤ 0))], [bC 1000000 (GL01Cur.q u3t)], []⟩ ?_
  rcases oif h with ⟨h64, h⟩ | ⟨h64, h⟩
  · refine Wc.cT h64 ?_
    apply Wc.seq
    refine Wc.r0 ⟨[tI 4 0], [bC 1000000 (GL01Cur.q u3t)], []⟩ ?_
    obtain rfl := Option.some.inj h; exact Wc.ret dn
  · refine Wc.cF h64 ?_
    refine Wc.fx [] ⟨[tP 0 1000000, tI 1 u0e], [bC 1000000 (GL01Cur.q u3t)], []⟩ ?_
    refine Wc.skip ?_
    apply Wc.seq
    apply Wc.seq
    refine Wc.r0 ⟨[tP 0 1000000, tI 1 u0e, tB 12 (decide (u0e ≤ 256))], [bC 1000000 (GL01Cur.q u3t)], []⟩ ?_
    rcases oif h with ⟨h65, h⟩ | ⟨h65, h⟩
    · refine Wc.cT h65 ?_
      apply Wc.seq
      obtain ⟨u6c, h66, h⟩ := obind h
      obtain ⟨h67, h⟩ := oguard h
      refine Wc.r2 [{}, { r := some (.v (aI u6c.2) []), outs := [(0, .p (GL01Cur.q u6c.1) [])] }] ⟨[tI 4 (Int.tmod u6c.2 u0e)], [bC 1000000 (GL01Cur.q u6c.1)], []⟩ (.cons (cspec_l01Byte h66) (.cons h67 .nil)) ?_
      obtain rfl := Option.some.inj h; exact Wc.ret dn
    · refine Wc.cF h65 ?_
      refine Wc.fx [] ⟨[tP 0 1000000, tI 1 u0e], [bC 1000000 (GL01Cur.q u3t)], []⟩ ?_
      refine Wc.skip ?_
      apply Wc.seq
      obtain ⟨u48, h68, h⟩ := obind h
      refine Wc.r2 [{}, { r := some (.v (aI u48.2) []), outs := [(0, .p (GL01Cur.q u48.1) [])] }] ⟨[tP 0 1000000, tI 1 u0e, tI 5 u48.2], [bC 1000000 (GL01Cur.q u48.1)], []⟩ (.cons (cspec_l01Byte h68) .nil) ?_
      apply Wc.seq
      obtain ⟨u4p, h69, h⟩ := obind h
      refine Wc.r2 [{}, { r := some (.v (aI u4p.2) []), outs := [(0, .p (GL01Cur.q u4p.1) [])] }] ⟨[tP 0 1000000, tI 1 u0e, tI 5 u48.2, tI 6 u4p.2], [bC 1000000 (GL01Cur.q u4p.1)], []⟩ (.cons (cspec_l01Byte h69) .nil) ?_
      apply Wc.seq
      obtain ⟨u52, h70, h⟩ := obind h
      refine Wc.r2 [{}, { r := some (.v (aI u52.2) []), outs := [(0, .p (GL01Cur.q u52.1) [])] }] ⟨[tP 0 1000000, tI 1 u0e, tI 5 u48.2, tI 6 u4p.2, tI 7 u52.2], [bC 1000000 (GL01Cur.q u52.1)], []⟩ (.cons (cspec_l01Byte h70) .nil) ?_
      apply Wc.seq
      obtain ⟨u53, h71, h⟩ := obind h
      refine Wc.r2 [{}, { r := some (.v (aI u53.2) []), outs := [(0, .p (GL01Cur.q u53.1) [])] }] ⟨[tI 1 u0e, tI 5 u48.2, tI 6 u4p.2, tI 7 u52.2, tI 8 u53.2], [bC 1000000 (GL01Cur.q u53.1)], []⟩ (.cons (cspec_l01Byte h71) .nil) ?_
      apply Wc.seq
      obtain ⟨h72, h⟩ := oguard h
      refine Wc.r2 [] ⟨[tI 4 (Int.tmod (wr.i64 ((wr.i64 ((wr.i64 ((wr.i64 (u48.2 * 16777216)) + (wr.i64 (u4p.2 * 65536)))) + (wr.i64 (u52.2 * 256)))) + u53.2)) u0e)], [bC 1000000 (GL01Cur.q u53.1)], []⟩ (.cons h72 .nil) ?_
      obtain rfl := Option.some.inj h; exact Wc.ret dn

def pspec_l01Pick (k : Nat) (u9c : GL01Cur) (u5v : List ByteArray) : Option (GL01Cur × ByteArray) :=
  (pspec_l01Below k u9c (u5v.length : Int)).bind fun u78 =>
  (at' u5v u78.2).bind fun u9d =>
  some (u78.1, u9d)
theorem cspec_l01Pick {k : Nat} {u9c : GL01Cur} {u5v : List ByteArray} {r : GL01Cur × ByteArray} (h : pspec_l01Pick k u9c u5v = some r) : FnO Try.prog 65 [.p (GL01Cur.q u9c) [], .v (.sl (List.map cS u5v)) []] (.v (.str r.2) []) [(0, .p (GL01Cur.q r.1) [])] := by
  refine FnO.o2 Try.func65 (rfl : Try.f65.body = some _) ?_
  intro w0 X0 Fin pv0 pb
  unfold pspec_l01Pick at h
  apply Wc.seq
  refine Wc.r0 ⟨[tP 0 1000000, tV 1 (.sl (List.map cS u5v))], [bC 1000000 (GL01Cur.q u9c)], []⟩ ?_
  apply Wc.seq
  obtain ⟨u78, h73, h⟩ := obind h
  obtain ⟨u9d, h74, h⟩ := obind h
  refine Wc.r2 [{}, {}, {}, { v := some (aI (u5v.length : Int)) }, { r := some (.v (aI u78.2) []), outs := [(0, .p (GL01Cur.q u78.1) [])] }, { v := some (.vptr [.str u9d]) }] ⟨[tS 4 u9d], [bC 1000000 (GL01Cur.q u78.1)], []⟩ (.cons (len_obl cS u5v) (.cons (cspec_l01Below h73) (.cons (at_obl (c := cS) rfl cS_len h74) (.cons (len_ok 1 [.str u9d]) .nil)))) ?_
  obtain rfl := Option.some.inj h; exact Wc.ret dn

def pspec_l03Two (k : Nat) (u79 : ByteArray) (u54 : GTerm) (u55 : GTerm) : Option GTerm :=
  some (GTerm.mk 4 u79 0 [u54, u55])
theorem cspec_l03Two {k : Nat} {u79 : ByteArray} {u54 : GTerm} {u55 : GTerm} {r : GTerm} (h : pspec_l03Two k u79 u54 u55 = some r) : FnO Try.prog 94 [.v (.str u79) [], .v (.agg (GTerm.q u54)) [], .v (.agg (GTerm.q u55)) []] (.v (.agg (GTerm.q r)) [(3, .app 41)]) [] := by
  refine FnO.o2 Try.func94 (rfl : Try.f94.body = some _) ?_
  intro w0 X0 Fin pv0 pb
  unfold pspec_l03Two at h
  apply Wc.seq
  refine Wc.r0 ⟨[tS 0 u79, tP 4 4, tP 5 5, tP 6 6], [bC 4 (GTerm.q u54), bC 5 (GTerm.q u55), (6, .cells GTerm.z [(3, .app 41)])], []⟩ ?_
  apply Wc.seq
  refine Wc.r2 [{}, {}, {}, { c := some (List.map GTerm.c [u54, u55]) }, { tk := [10] }, { tk := [11] }] ⟨[tP 6 6], [(6, .cells [aI 4, .str u79, aI 0, .sl (List.map GTerm.c [u54, u55])] [(3, .app 41)])], []⟩ (.cons (cl_cons (c := GTerm.c) (x := u54) (GTerm.c_eq u54) (cl_cons (c := GTerm.c) (x := u55) (GTerm.c_eq u55) (cl_nil GTerm.c))) .nil) ?_
  obtain rfl := Option.some.inj h; exact Wc.ret dn

def pspec_l01PickInt (k : Nat) (u9e : GL01Cur) (u5w : List Int) : Option (GL01Cur × Int) :=
  (pspec_l01Below k u9e (u5w.length : Int)).bind fun u7a =>
  (at' u5w u7a.2).bind fun u9f =>
  some (u7a.1, u9f)
theorem cspec_l01PickInt {k : Nat} {u9e : GL01Cur} {u5w : List Int} {r : GL01Cur × Int} (h : pspec_l01PickInt k u9e u5w = some r) : FnO Try.prog 118 [.p (GL01Cur.q u9e) [], .v (.sl (List.map cI.i64 u5w)) []] (.v (aI r.2) []) [(0, .p (GL01Cur.q r.1) [])] := by
  refine FnO.o2 Try.func118 (rfl : Try.f118.body = some _) ?_
  intro w0 X0 Fin pv0 pb
  unfold pspec_l01PickInt at h
  apply Wc.seq
  refine Wc.r0 ⟨[tP 0 1000000, tV 1 (.sl (List.map cI.i64 u5w))], [bC 1000000 (GL01Cur.q u9e)], []⟩ ?_
  apply Wc.seq
  obtain ⟨u7a, h75, h⟩ := obind h
  obtain ⟨u9f, h76, h⟩ := obind h
  refine Wc.r2 [{}, {}, {}, { v := some (aI (u5w.length : Int)) }, { r := some (.v (aI u7a.2) []), outs := [(0, .p (GL01Cur.q u7a.1) [])] }, { v := some (.vptr [aI u9f]) }] ⟨[tI 4 u9f], [bC 1000000 (GL01Cur.q u7a.1)], []⟩ (.cons (len_obl cI.i64 u5w) (.cons (cspec_l01Below h75) (.cons (at_obl (c := cI.i64) rfl cI.i64_len h76) (.cons (len_ok 1 [aI u9f]) .nil)))) ?_
  obtain rfl := Option.some.inj h; exact Wc.ret dn

def pspec_l03Var (k : Nat) (u7b : Int) : Option GTerm :=
  some (GTerm.mk 1 (bs []) u7b [])
theorem cspec_l03Var {k : Nat} {u7b : Int} {r : GTerm} (h : pspec_l03Var k u7b = some r) : FnO Try.prog 140 [.v (aI u7b) []] (.v (.agg (GTerm.q r)) [(3, .app 41)]) [] := by
  refine FnO.o2 Try.func140 (rfl : Try.f140.body = some _) ?_
  intro w0 X0 Fin pv0 pb
  unfold pspec_l03Var at h
  apply Wc.seq
  refine Wc.r0 ⟨[tI 0 u7b, tP 2 2], [(2, .cells GTerm.z [(3, .app 41)])], []⟩ ?_
  apply Wc.seq
  refine Wc.r1 [{}, {}, { tk := [4] }] ⟨[tP 2 2], [(2, .cells [aI 1, .str (bs []), aI u7b, .sl (List.map GTerm.c [])] [(3, .app 41)])], []⟩ ?_
  obtain rfl := Option.some.inj h; exact Wc.ret dn

def pspec_l03Num (k : Nat) (u7c : Int) : Option GTerm :=
  some (GTerm.mk 3 (bs []) u7c [])
theorem cspec_l03Num {k : Nat} {u7c : Int} {r : GTerm} (h : pspec_l03Num k u7c = some r) : FnO Try.prog 153 [.v (aI u7c) []] (.v (.agg (GTerm.q r)) [(3, .app 41)]) [] := by
  refine FnO.o2 Try.func153 (rfl : Try.f153.body = some _) ?_
  intro w0 X0 Fin pv0 pb
  unfold pspec_l03Num at h
  apply Wc.seq
  refine Wc.r0 ⟨[tI 0 u7c, tP 2 2], [(2, .cells GTerm.z [(3, .app 41)])], []⟩ ?_
  apply Wc.seq
  refine Wc.r1 [{}, {}, { tk := [4] }] ⟨[tP 2 2], [(2, .cells [aI 3, .str (bs []), aI u7c, .sl (List.map GTerm.c [])] [(3, .app 41)])], []⟩ ?_
  obtain rfl := Option.some.inj h; exact Wc.ret dn

def pspec_l03Made_L2 (k : Nat) (rspec_l03Made : GL01Cur → Int → Option (GL01Cur × GTerm)) (v1 : Int) : Nat → Int → GTerm → GL01Cur → Option (Out (GL01Cur × GTerm) (GTerm × GL01Cur))
  | 0, _, _, _ => none
  | m + 1, u2m, vt, u9g =>
    (pspec_l01Below k u9g 3).bind fun u34 =>
    if (decide (u2m < (wr.i64 (1 + u34.2)))) = true then
      if (decide ((vt.gKids.length : Int) < 5)) = true then
        (rspec_l03Made u34.1 (wr.i64 (v1 - 1))).bind fun u1x =>
        if vt.gKids.length + [u1x.2].length ≤ 1073741824 then
          pspec_l03Made_L2 k rspec_l03Made v1 m (wr.i64 (u2m + 1)) (GTerm.mk vt.gKind vt.gName vt.gNum (vt.gKids ++ [u1x.2])) u1x.1
        else none
      else
        pspec_l03Made_L2 k rspec_l03Made v1 m (wr.i64 (u2m + 1)) vt u34.1
    else
      some (.done (vt, u34.1))
def pspec_l03Made_J1 (k : Nat) (rspec_l03Made : GL01Cur → Int → Option (GL01Cur × GTerm)) (z0 : GL01Cur × Int) (v1 : Int) (u1l : Int) : Option (GL01Cur × GTerm) :=
  if (decide (u1l < 2)) = true then
    (pspec_l01Below k z0.1 4).bind fun u7d =>
    (pspec_l03Var k u7d.2).bind fun ubz =>
    some (u7d.1, ubz)
  else
    if (decide (u1l < 4)) = true then
      if 0 ≤ (0 : Int) ∧ (0 : Int) ≤ 1 ∧ 1 ≤ ((bs [120, 32, 121]).size : Int) then
        (pspec_l01Pick k z0.1 [(bs [97]), (bs [98]), (bs [91, 93]), (bs [43]), (bs [66, 105, 103]), (bs [120, 32, 121]).extract ((0 : Int) : Int).toNat (1 : Int).toNat, (bs [58, 45]), (bs [61, 46, 46])]).bind fun u7e =>
        (pspec_l03Atom k u7e.2).bind fun uc0 =>
        some (u7e.1, uc0)
      else none
    else
      if (decide (u1l < 6)) = true then
        (pspec_l01PickInt k z0.1 [0, 1, -7, 999999999]).bind fun u7f =>
        (pspec_l03Num k u7f.2).bind fun uc1 =>
        some (u7f.1, uc1)
      else
        if (u1l == 6) = true then
          (rspec_l03Made z0.1 (wr.i64 (v1 - 1))).bind fun u9h =>
          (rspec_l03Made u9h.1 (wr.i64 (v1 - 1))).bind fun u7g =>
          (pspec_l03Two k (bs [46]) u9h.2 u7g.2).bind fun uc2 =>
          some (u7g.1, uc2)
        else
          if (u1l == 7) = true then
            (pspec_l01Pick k z0.1 [(bs [43]), (bs [61]), (bs [44]), (bs [102]), (bs [59])]).bind fun u9i =>
            (rspec_l03Made u9i.1 (wr.i64 (v1 - 1))).bind fun u9j =>
            (rspec_l03Made u9j.1 (wr.i64 (v1 - 1))).bind fun u7h =>
            (pspec_l03Two k u9i.2 u9j.2 u7h.2).bind fun uc3 =>
            some (u7h.1, uc3)
          else
            (pspec_l01Pick k z0.1 [(bs [102]), (bs [103]), (bs [45]), (bs [91, 93])]).bind fun u56 =>
            (pspec_l03Made_L2 k rspec_l03Made v1 k 0 (GTerm.mk 4 u56.2 0 []) u56.1).bind fun out2 => match out2 with
            | .ret r => some r
            | .done (u7i, u7j) =>
              some (u7j, u7i)
mutual
def pspec_l03Made : Nat → GL01Cur → Int → Option (GL01Cur × GTerm)
  | 0, _, _ => none
  | k + 1, u4q, v1 =>
    (pspec_l01Below k u4q 10).bind fun z0 =>
    if (decide (v1 ≤ 0)) = true then
      if (6 : Int) ≠ 0 then
        pspec_l03Made_J1 k (pspec_l03Made k) z0 v1 (Int.tmod z0.2 6)
      else none
    else
      pspec_l03Made_J1 k (pspec_l03Made k) z0 v1 z0.2
end
set_option maxHeartbeats 4000000 in
theorem all_pspec_l03Made : ∀ k : Nat, (∀ {u4q : GL01Cur} {v1 : Int} {r : GL01Cur × GTerm}, pspec_l03Made k u4q v1 = some r → FnO Try.prog 138 [.p (GL01Cur.q u4q) [], .v (aI v1) []] (.v (.agg (GTerm.q r.2)) [(3, .app 41)]) [(0, .p (GL01Cur.q r.1) [])]) := by
  intro k
  induction k with
  | zero =>
    · intro u4q v1 r h
      exact (onone (by rw [pspec_l03Made] at h; exact h)).elim
  | succ k ih =>
    have ih_pspec_l03Made := @ih
    · intro u4q v1 r h
      rw [pspec_l03Made] at h
      refine FnO.o2 Try.func138 (rfl : Try.f138.body = some _) ?_
      intro w0 X0 Fin pv0 pb
      apply Wc.seq
      refine Wc.r0 ⟨[tP 0 1000000, tI 1 v1, tP 4 4], [(4, .cells GTerm.z [(3, .app 41)]), bC 1000000 (GL01Cur.q u4q)], []⟩ ?_
      apply Wc.seq
      obtain ⟨z0, h106, h⟩ := obind h
      refine Wc.r2 [{}, { r := some (.v (aI z0.2) []), outs := [(0, .p (GL01Cur.q z0.1) [])] }] ⟨[tP 0 1000000, tI 1 v1, tP 4 4, tI 5 z0.2], [(4, .cells GTerm.z [(3, .app 41)]), bC 1000000 (GL01Cur.q z0.1)], []⟩ (.cons (cspec_l01Below h106) .nil) ?_
      refine Wc.seqJ (fun st => ∃ (u1l : Int), st = ⟨[tP 0 1000000, tI 1 v1, tP 4 4, tI 5 u1l], [(4, .cells GTerm.z [(3, .app 41)]), bC 1000000 (GL01Cur.q z0.1)], []⟩ ∧ pspec_l03Made_J1 k (pspec_l03Made k) z0 v1 u1l = some r) ?_ ?_
      · apply Wc.seq
        refine Wc.r0 ⟨[tP 0 1000000, tI 1 v1, tP 4 4, tI 5 z0.2, tB 11 (decide (v1 ≤ 0))], [(4, .cells GTerm.z [(3, .app 41)]), bC 1000000 (GL01Cur.q z0.1)], []⟩ ?_
        rcases oif h with ⟨h133, h⟩ | ⟨h133, h⟩
        · refine Wc.cT h133 ?_
          obtain ⟨h134, h⟩ := oguard h
          refine Wc.r2 [] ⟨[tP 0 1000000, tI 1 v1, tP 4 4, tI 5 (Int.tmod z0.2 6)], [(4, .cells GTerm.z [(3, .app 41)]), bC 1000000 (GL01Cur.q z0.1)], []⟩ (.cons h134 .nil) ?_
          exact ⟨_, rfl, h⟩
        · refine Wc.cF h133 ?_
          refine Wc.fx [] ⟨[tP 0 1000000, tI 1 v1, tP 4 4, tI 5 z0.2], [(4, .cells GTerm.z [(3, .app 41)]), bC 1000000 (GL01Cur.q z0.1)], []⟩ ?_
          refine Wc.skip ?_
          exact ⟨_, rfl, h⟩
      · rintro st ⟨u1l, rfl, h⟩
        apply Wc.seq
        refine Wc.block ?_
        apply Wc.seq
        refine Wc.r0 ⟨[tP 0 1000000, tI 1 v1, tP 4 4, tI 5 u1l, tB 14 (decide (u1l < 2))], [(4, .cells GTerm.z [(3, .app 41)]), bC 1000000 (GL01Cur.q z0.1)], []⟩ ?_
        rcases oif h with ⟨h107, h⟩ | ⟨h107, h⟩
        · refine Wc.cT h107 ?_
          apply Wc.seq
          obtain ⟨u7d, h108, h⟩ := obind h
          obtain ⟨ubz, h109, h⟩ := obind h
          refine Wc.r2 [{}, { r := some (.v (aI u7d.2) []), outs := [(0, .p (GL01Cur.q u7d.1) [])] }, { r := some (.v (.agg (GTerm.q ubz)) [(3, .app 41)]) }, { tk := [19] }] ⟨[tP 4 4], [(4, .cells (GTerm.q ubz) [(3, .app 41)]), bC 1000000 (GL01Cur.q u7d.1)], []⟩ (.cons (cspec_l01Below h108) (.cons (cspec_l03Var h109) .nil)) ?_
          obtain rfl := Option.some.inj h; exact Wc.ret dn
        · refine Wc.cF h107 ?_
          apply Wc.seq
          refine Wc.r0 ⟨[tP 0 1000000, tI 1 v1, tP 4 4, tI 5 u1l, tB 20 (decide (u1l < 4))], [(4, .cells GTerm.z [(3, .app 41)]), bC 1000000 (GL01Cur.q z0.1)], []⟩ ?_
          rcases oif h with ⟨h110, h⟩ | ⟨h110, h⟩
          · refine Wc.cT h110 ?_
            apply Wc.seq
            obtain ⟨h111, h⟩ := oguard h
            obtain ⟨u7e, h112, h⟩ := obind h
            obtain ⟨uc0, h113, h⟩ := obind h
            refine Wc.r2 [{}, {}, { c := some (List.map cS [(bs [97]), (bs [98]), (bs [91, 93]), (bs [43]), (bs [66, 105, 103]), (bs [120, 32, 121]).extract ((0 : Int) : Int).toNat (1 : Int).toNat, (bs [58, 45]), (bs [61, 46, 46])]) }, { r := some (.v (.str u7e.2) []), outs := [(0, .p (GL01Cur.q u7e.1) [])] }, { r := some (.v (.agg (GTerm.q uc0)) [(3, .app 41)]) }, { tk := [27] }] ⟨[tP 4 4], [(4, .cells (GTerm.q uc0) [(3, .app 41)]), bC 1000000 (GL01Cur.q u7e.1)], []⟩ (.cons h111 (.cons (cl_cons (c := cS) (x := (bs [97])) rfl (cl_cons (c := cS) (x := (bs [98])) rfl (cl_cons (c := cS) (x := (bs [91, 93])) rfl (cl_cons (c := cS) (x := (bs [43])) rfl (cl_cons (c := cS) (x := (bs [66, 105, 103])) rfl (cl_cons (c := cS) (x := (bs [120, 32, 121]).extract ((0 : Int) : Int).toNat (1 : Int).toNat) rfl (cl_cons (c := cS) (x := (bs [58, 45])) rfl (cl_cons (c := cS) (x := (bs [61, 46, 46])) rfl (cl_nil cS))))))))) (.cons (cspec_l01Pick h112) (.cons (cspec_l03Atom h113) .nil)))) ?_
            obtain rfl := Option.some.inj h; exact Wc.ret dn
          · refine Wc.cF h110 ?_
            apply Wc.seq
            refine Wc.r0 ⟨[tP 0 1000000, tI 1 v1, tP 4 4, tI 5 u1l, tB 28 (decide (u1l < 6))], [(4, .cells GTerm.z [(3, .app 41)]), bC 1000000 (GL01Cur.q z0.1)], []⟩ ?_
            rcases oif h with ⟨h114, h⟩ | ⟨h114, h⟩
            · refine Wc.cT h114 ?_
              apply Wc.seq
              obtain ⟨u7f, h115, h⟩ := obind h
              obtain ⟨uc1, h116, h⟩ := obind h
              refine Wc.r2 [{}, { c := some (List.map cI.i64 [0, 1, -7, 999999999]) }, { r := some (.v (aI u7f.2) []), outs := [(0, .p (GL01Cur.q u7f.1) [])] }, { r := some (.v (.agg (GTerm.q uc1)) [(3, .app 41)]) }, { tk := [34] }] ⟨[tP 4 4], [(4, .cells (GTerm.q uc1) [(3, .app 41)]), bC 1000000 (GL01Cur.q u7f.1)], []⟩ (.cons (cl_cons (c := cI.i64) (x := 0) rfl (cl_cons (c := cI.i64) (x := 1) rfl (cl_cons (c := cI.i64) (x := -7) rfl (cl_cons (c := cI.i64) (x := 999999999) rfl (cl_nil cI.i64))))) (.cons (cspec_l01PickInt h115) (.cons (cspec_l03Num h116) .nil))) ?_
              obtain rfl := Option.some.inj h; exact Wc.ret dn
            · refine Wc.cF h114 ?_
              apply Wc.seq
              refine Wc.r0 ⟨[tP 0 1000000, tI 1 v1, tP 4 4, tI 5 u1l, tB 35 (u1l == 6)], [(4, .cells GTerm.z [(3, .app 41)]), bC 1000000 (GL01Cur.q z0.1)], []⟩ ?_
              rcases oif h with ⟨h117, h⟩ | ⟨h117, h⟩
              · refine Wc.cT h117 ?_
                apply Wc.seq
                obtain ⟨u9h, h118, h⟩ := obind h
                obtain ⟨u7g, h119, h⟩ := obind h
                obtain ⟨uc2, h120, h⟩ := obind h
                refine Wc.r2 [{}, {}, {}, { r := some (.v (.agg (GTerm.q u9h.2)) [(3, .app 41)]), outs := [(0, .p (GL01Cur.q u9h.1) [])] }, {}, {}, {}, { r := some (.v (.agg (GTerm.q u7g.2)) [(3, .app 41)]), outs := [(0, .p (GL01Cur.q u7g.1) [])] }, { r := some (.v (.agg (GTerm.q uc2)) [(3, .app 41)]) }, { tk := [46] }] ⟨[tP 4 4], [(4, .cells (GTerm.q uc2) [(3, .app 41)]), bC 1000000 (GL01Cur.q u7g.1)], []⟩ (.cons (ih_pspec_l03Made h118) (.cons (ih_pspec_l03Made h119) (.cons (cspec_l03Two h120) .nil))) ?_
                obtain rfl := Option.some.inj h; exact Wc.ret dn
              · refine Wc.cF h117 ?_
                apply Wc.seq
                refine Wc.r0 ⟨[tP 0 1000000, tI 1 v1, tP 4 4, tB 47 (u1l == 7)], [(4, .cells GTerm.z [(3, .app 41)]), bC 1000000 (GL01Cur.q z0.1)], []⟩ ?_
                rcases oif h with ⟨h121, h⟩ | ⟨h121, h⟩
                · refine Wc.cT h121 ?_
                  apply Wc.seq
                  obtain ⟨u9i, h122, h⟩ := obind h
                  obtain ⟨u9j, h123, h⟩ := obind h
                  obtain ⟨u7h, h124, h⟩ := obind h
                  obtain ⟨uc3, h125, h⟩ := obind h
                  refine Wc.r2 [{}, { c := some (List.map cS [(bs [43]), (bs [61]), (bs [44]), (bs [102]), (bs [59])]) }, { r := some (.v (.str u9i.2) []), outs := [(0, .p (GL01Cur.q u9i.1) [])] }, {}, {}, {}, { r := some (.v (.agg (GTerm.q u9j.2)) [(3, .app 41)]), outs := [(0, .p (GL01Cur.q u9j.1) [])] }, {}, {}, {}, { r := some (.v (.agg (GTerm.q u7h.2)) [(3, .app 41)]), outs := [(0, .p (GL01Cur.q u7h.1) [])] }, { r := some (.v (.agg (GTerm.q uc3)) [(3, .app 41)]) }, { tk := [61] }] ⟨[tP 4 4], [(4, .cells (GTerm.q uc3) [(3, .app 41)]), bC 1000000 (GL01Cur.q u7h.1)], []⟩ (.cons (cl_cons (c := cS) (x := (bs [43])) rfl (cl_cons (c := cS) (x := (bs [61])) rfl (cl_cons (c := cS) (x := (bs [44])) rfl (cl_cons (c := cS) (x := (bs [102])) rfl (cl_cons (c := cS) (x := (bs [59])) rfl (cl_nil cS)))))) (.cons (cspec_l01Pick h122) (.cons (ih_pspec_l03Made h123) (.cons (ih_pspec_l03Made h124) (.cons (cspec_l03Two h125) .nil))))) ?_
                  obtain rfl := Option.some.inj h; exact Wc.ret dn
                · refine Wc.cF h121 ?_
                  refine Wc.fx [] ⟨[tP 0 1000000, tI 1 v1, tP 4 4], [(4, .cells GTerm.z [(3, .app 41)]), bC 1000000 (GL01Cur.q z0.1)], []⟩ ?_
                  refine Wc.skip ?_
                  apply Wc.seq
                  obtain ⟨u56, h126, h⟩ := obind h
                  refine Wc.r2 [{}, { c := some (List.map cS [(bs [102]), (bs [103]), (bs [45]), (bs [91, 93])]) }, { r := some (.v (.str u56.2) []), outs := [(0, .p (GL01Cur.q u56.1) [])] }, {}, {}, { tk := [65] }] ⟨[tP 0 1000000, tI 1 v1, tP 4 4, tP 6 6], [(4, .cells GTerm.z [(3, .app 41)]), (6, .cells [aI 4, .str u56.2, aI 0, .sl (List.map GTerm.c [])] [(3, .app 41)]), bC 1000000 (GL01Cur.q u56.1)], []⟩ (.cons (cl_cons (c := cS) (x := (bs [102])) rfl (cl_cons (c := cS) (x := (bs [103])) rfl (cl_cons (c := cS) (x := (bs [45])) rfl (cl_cons (c := cS) (x := (bs [91, 93])) rfl (cl_nil cS))))) (.cons (cspec_l01Pick h126) .nil)) ?_
                  apply Wc.seq
                  apply Wc.seq
                  refine Wc.r0 ⟨[tP 0 1000000, tI 1 v1, tP 4 4, tP 6 6, tI 7 0], [(4, .cells GTerm.z [(3, .app 41)]), (6, .cells [aI 4, .str u56.2, aI 0, .sl (List.map GTerm.c [])] [(3, .app 41)]), bC 1000000 (GL01Cur.q u56.1)], []⟩ ?_
                  obtain ⟨out2, h127, h⟩ := obind h
                  refine Wc.lastJ (fun st => ∃ (u7i : GTerm) (u7j : GL01Cur), out2 = .done (u7i, u7j) ∧ st = ⟨[tP 4 4, tP 6 6], [(4, .cells GTerm.z [(3, .app 41)]), (6, .cells (GTerm.q u7i) [(3, .app 41)]), bC 1000000 (GL01Cur.q u7j)], []⟩) ?_ ?_
                  · refine Wc.block ?_
                    refine Wc.loop (fun m st => ∃ (u2m : Int) (vt : GTerm) (u9g : GL01Cur), st = ⟨[tP 0 1000000, tI 1 v1, tP 4 4, tP 6 6, tI 7 u2m], [(4, .cells GTerm.z [(3, .app 41)]), (6, .cells (GTerm.q vt) [(3, .app 41)]), bC 1000000 (GL01Cur.q u9g)], []⟩ ∧ pspec_l03Made_L2 k (pspec_l03Made k) v1 m u2m vt u9g = some out2) ?_ k ⟨_, _, _, rfl, h127⟩
                    rintro m st ⟨u2m, vt, u9g, rfl, h127⟩
                    cases m with
                    | zero => exact (onone h127).elim
                    | succ m =>
                      apply Wc.seq
                      apply Wc.seq
                      obtain ⟨u34, h128, h127⟩ := obind h127
                      refine Wc.r2 [{}, {}, { r := some (.v (aI u34.2) []), outs := [(0, .p (GL01Cur.q u34.1) [])] }] ⟨[tP 0 1000000, tI 1 v1, tP 4 4, tP 6 6, tI 7 u2m, tB 70 (decide (u2m < (wr.i64 (1 + u34.2))))], [(4, .cells GTerm.z [(3, .app 41)]), (6, .cells (GTerm.q vt) [(3, .app 41)]), bC 1000000 (GL01Cur.q u34.1)], []⟩ (.cons (cspec_l01Below h128) .nil) ?_
                      rcases oif h127 with ⟨h129, h127⟩ | ⟨h129, h127⟩
                      · refine Wc.cT h129 ?_
                        refine Wc.fx [] ⟨[tP 0 1000000, tI 1 v1, tP 4 4, tP 6 6, tI 7 u2m], [(4, .cells GTerm.z [(3, .app 41)]), (6, .cells (GTerm.q vt) [(3, .app 41)]), bC 1000000 (GL01Cur.q u34.1)], []⟩ ?_
                        refine Wc.skip ?_
                        apply Wc.seq
                        refine Wc.block ?_
                        apply Wc.seq
                        refine Wc.r2 [{}, {}, { v := some (aI (vt.gKids.length : Int)) }] ⟨[tP 0 1000000, tI 1 v1, tP 4 4, tP 6 6, tI 7 u2m, tB 76 (decide ((vt.gKids.length : Int) < 5))], [(4, .cells GTerm.z [(3, .app 41)]), (6, .cells (GTerm.q vt) [(3, .app 41)]), bC 1000000 (GL01Cur.q u34.1)], []⟩ (.cons (len_obl GTerm.c vt.gKids) .nil) ?_
                        rcases oif h127 with ⟨h130, h127⟩ | ⟨h130, h127⟩
                        · refine Wc.cT h130 ?_
                          obtain ⟨u1x, h131, h127⟩ := obind h127
                          obtain ⟨h132, h127⟩ := oguard h127
                          refine Wc.draw hmix [{}, { md := 1 }, {}, {}, {}, { r := some (.v (.agg (GTerm.q u1x.2)) [(3, .app 41)]), outs := [(0, .p (GL01Cur.q u1x.1) [])] }, { c := some (List.map GTerm.c [u1x.2]) }, { c := some (List.map GTerm.c (vt.gKids ++ [u1x.2])), tk := [78] }, {}, { tk := [84] }] [] [0, 1, 4, 6, 7] [4, 6, 1000000] [] ⟨[tP 0 1000000, tI 1 v1, tP 4 4, tP 6 6, tI 7 u2m], [(4, .cells GTerm.z [(3, .app 41)]), (6, .cells [aI vt.gKind, .str vt.gName, aI vt.gNum, .sl (List.map GTerm.c (vt.gKids ++ [u1x.2]))] [(3, .app 41)]), bC 1000000 (GL01Cur.q u1x.1)], []⟩ _ (by kernel_rfl) (fun X => by kernel_rfl) (.cons (ih_pspec_l03Made h131) (.cons (cl_cons (c := GTerm.c) (x := u1x.2) (GTerm.c_eq u1x.2) (cl_nil GTerm.c)) (.cons (app_re2 GTerm.c vt.gKids [u1x.2]) (.cons (app_leaf (c := GTerm.c) (ys := [u1x.2]) GTerm.c_leaf) (.cons (app_obl2 (c := GTerm.c) (xs := vt.gKids) (ys := [u1x.2]) GTerm.c_len h132) .nil))))) ?_
                          refine Wc.r0 ⟨[tP 0 1000000, tI 1 v1, tP 4 4, tP 6 6, tI 7 (wr.i64 (u2m + 1))], [(4, .cells GTerm.z [(3, .app 41)]), (6, .cells [aI vt.gKind, .str vt.gName, aI vt.gNum, .sl (List.map GTerm.c (vt.gKids ++ [u1x.2]))] [(3, .app 41)]), bC 1000000 (GL01Cur.q u1x.1)], []⟩ ?_
                          exact ⟨_, Nat.lt_succ_self _, _, _, _, rfl, h127⟩
                        · refine Wc.cF h130 ?_
                          refine Wc.fx [] ⟨[tP 0 1000000, tI 1 v1, tP 4 4, tP 6 6, tI 7 u2m], [(4, .cells GTerm.z [(3, .app 41)]), (6, .cells (GTerm.q vt) [(3, .app 41)]), bC 1000000 (GL01Cur.q u34.1)], []⟩ ?_
                          refine Wc.skip ?_
                          refine Wc.r0 ⟨[tP 0 1000000, tI 1 v1, tP 4 4, tP 6 6, tI 7 (wr.i64 (u2m + 1))], [(4, .cells GTerm.z [(3, .app 41)]), (6, .cells (GTerm.q vt) [(3, .app 41)]), bC 1000000 (GL01Cur.q u34.1)], []⟩ ?_
                          exact ⟨_, Nat.lt_succ_self _, _, _, _, rfl, h127⟩
                      · refine Wc.cF h129 ?_
                        refine Wc.fx [] ⟨[tP 4 4, tP 6 6], [(4, .cells GTerm.z [(3, .app 41)]), (6, .cells (GTerm.q vt) [(3, .app 41)]), bC 1000000 (GL01Cur.q u34.1)], []⟩ ?_
                        refine Wc.exit ?_
                        obtain rfl := Option.some.inj h127
                        exact ⟨_, _, rfl, rfl⟩
                  · rintro st ⟨u7i, u7j, rfl, rfl⟩
                    apply Wc.seq
                    refine Wc.r1 [{ md := 1 }, { tk := [86] }] ⟨[tP 4 4], [(4, .cells (GTerm.q u7i) [(3, .app 41)]), bC 1000000 (GL01Cur.q u7j)], []⟩ ?_
                    obtain rfl := Option.some.inj h; exact Wc.ret dn
theorem cspec_l03Made {k : Nat} {u4q : GL01Cur} {v1 : Int} {r : GL01Cur × GTerm} (h : pspec_l03Made k u4q v1 = some r) : FnO Try.prog 138 [.p (GL01Cur.q u4q) [], .v (aI v1) []] (.v (.agg (GTerm.q r.2)) [(3, .app 41)]) [(0, .p (GL01Cur.q r.1) [])] := (all_pspec_l03Made k) h

def pspec_l03Term (k : Nat) (u9k : GL01Cur) : Option (GL01Cur × GTerm) :=
  (pspec_l03Made k u9k 3).bind fun u2n =>
  (pspec_TermOk k u2n.2).bind fun uc4 =>
  if uc4 = true then
    some (u2n.1, u2n.2)
  else
    (pspec_l03Atom k (bs [97])).bind fun uc5 =>
    some (u2n.1, uc5)
theorem cspec_l03Term {k : Nat} {u9k : GL01Cur} {r : GL01Cur × GTerm} (h : pspec_l03Term k u9k = some r) : FnO Try.prog 96 [.p (GL01Cur.q u9k) []] (.v (.agg (GTerm.q r.2)) [(3, .app 41)]) [(0, .p (GL01Cur.q r.1) [])] := by
  refine FnO.o2 Try.func96 (rfl : Try.f96.body = some _) ?_
  intro w0 X0 Fin pv0 pb
  unfold pspec_l03Term at h
  apply Wc.seq
  refine Wc.r0 ⟨[tP 0 1000000, tP 2 2], [(2, .cells GTerm.z [(3, .app 41)]), bC 1000000 (GL01Cur.q u9k)], []⟩ ?_
  apply Wc.seq
  obtain ⟨u2n, h139, h⟩ := obind h
  refine Wc.r2 [{}, { r := some (.v (.agg (GTerm.q u2n.2)) [(3, .app 41)]), outs := [(0, .p (GL01Cur.q u2n.1) [])] }, {}, { tk := [5] }] ⟨[tP 2 2, tP 3 3], [(2, .cells GTerm.z [(3, .app 41)]), (3, .cells (GTerm.q u2n.2) [(3, .app 41)]), bC 1000000 (GL01Cur.q u2n.1)], []⟩ (.cons (cspec_l03Made h139) .nil) ?_
  apply Wc.seq
  apply Wc.seq
  obtain ⟨uc4, h140, h⟩ := obind h
  refine Wc.r2 [{}, { r := some (.v (.bool uc4) []) }] ⟨[tP 2 2, tP 3 3, tB 7 uc4], [(2, .cells GTerm.z [(3, .app 41)]), (3, .cells (GTerm.q u2n.2) [(3, .app 41)]), bC 1000000 (GL01Cur.q u2n.1)], []⟩ (.cons (cspec_TermOk h140) .nil) ?_
  rcases oif h with ⟨h141, h⟩ | ⟨h141, h⟩
  · refine Wc.cT h141 ?_
    apply Wc.seq
    refine Wc.r1 [{ md := 1 }, { tk := [8] }] ⟨[tP 2 2], [(2, .cells (GTerm.q u2n.2) [(3, .app 41)]), bC 1000000 (GL01Cur.q u2n.1)], []⟩ ?_
    obtain rfl := Option.some.inj h; exact Wc.ret dn
  · refine Wc.cF h141 ?_
    refine Wc.fx [] ⟨[tP 2 2], [(2, .cells GTerm.z [(3, .app 41)]), bC 1000000 (GL01Cur.q u2n.1)], []⟩ ?_
    refine Wc.skip ?_
    apply Wc.seq
    obtain ⟨uc5, h142, h⟩ := obind h
    refine Wc.r2 [{ r := some (.v (.agg (GTerm.q uc5)) [(3, .app 41)]) }, { tk := [9] }] ⟨[tP 2 2], [(2, .cells (GTerm.q uc5) [(3, .app 41)]), bC 1000000 (GL01Cur.q u2n.1)], []⟩ (.cons (cspec_l03Atom h142) .nil) ?_
    obtain rfl := Option.some.inj h; exact Wc.ret dn

def pspec_DrawTerm (k : Nat) (u9l : List Int) : Option GTerm :=
  (pspec_l01New k u9l).bind fun ue1 =>
  (pspec_l03Term k ue1).bind fun u9m =>
  some u9m.2
theorem cspec_DrawTerm {k : Nat} {u9l : List Int} {r : GTerm} (h : pspec_DrawTerm k u9l = some r) : FnO Try.prog 36 [.v (.sl (List.map cI.u8 u9l)) []] (.v (.agg (GTerm.q r)) [(3, .app 41)]) [] := by
  refine FnO.o2 Try.func36 (rfl : Try.f36.body = some _) ?_
  intro w0 X0 Fin pv0 pb
  unfold pspec_DrawTerm at h
  apply Wc.seq
  refine Wc.r0 ⟨[tV 0 (.sl (List.map cI.u8 u9l)), tP 2 2], [(2, .cells GTerm.z [(3, .app 41)])], []⟩ ?_
  apply Wc.seq
  obtain ⟨ue1, h145, h⟩ := obind h
  obtain ⟨u9m, h146, h⟩ := obind h
  refine Wc.r2 [{}, { r := some (.p (GL01Cur.q ue1) []) }, { r := some (.v (.agg (GTerm.q u9m.2)) [(3, .app 41)]), outs := [(0, .p (GL01Cur.q u9m.1) [])] }, { tk := [5] }] ⟨[tP 2 2], [(2, .cells (GTerm.q u9m.2) [(3, .app 41)])], []⟩ (.cons (cspec_l01New h145) (.cons (cspec_l03Term h146) .nil)) ?_
  obtain rfl := Option.some.inj h; exact Wc.ret dn

def pimpl_within (k : Nat) (u6d : Int) (u9n : Int) (u7k : Int) : Option Bool :=
  if (decide (u6d ≥ u9n)) = true then
    some (decide (u6d ≤ u7k))
  else
    some false
theorem cimpl_within {k : Nat} {u6d : Int} {u9n : Int} {u7k : Int} {r : Bool} (h : pimpl_within k u6d u9n u7k = some r) : FnO Try.prog 90 [.v (aI u6d) [], .v (aI u9n) [], .v (aI u7k) []] (.v (.bool r) []) [] := by
  refine FnO.o2 Try.func90 (rfl : Try.f90.body = some _) ?_
  intro w0 X0 Fin pv0 pb
  unfold pimpl_within at h
  apply Wc.seq
  refine Wc.r0 ⟨[tI 0 u6d, tI 1 u9n, tI 2 u7k], [], []⟩ ?_
  apply Wc.seq
  rcases oif h with ⟨h147, h⟩ | ⟨h147, h⟩
  · refine Wc.r2 [{}, {}, {}, { re := some (.bool true) }] ⟨[tB 6 (decide (u6d ≤ u7k))], [], []⟩ (.cons (congrArg AV.bool h147) .nil) ?_
    obtain rfl := Option.some.inj h; exact Wc.ret dn
  · refine Wc.r2 [{}, {}, {}, { re := some (.bool false) }] ⟨[tB 6 false], [], []⟩ (.cons (congrArg AV.bool h147) .nil) ?_
    obtain rfl := Option.some.inj h; exact Wc.ret dn

def pimpl_nameOk_L1 (k : Nat) (z5 : ByteArray) : Nat → Int → Option (Out Bool Unit)
  | 0, _ => none
  | m + 1, u04 =>
    if (decide (u04 < (z5.size : Int))) = true then
      if 0 ≤ u04 ∧ (u04).toNat < z5.size then
        (pimpl_within k (wr.i64 (bt z5 u04)) 33 126).bind fun u9o =>
        if (!u9o) = true then
          some (.ret false)
        else
          if 0 ≤ u04 ∧ (u04).toNat < z5.size then
            if ((bt z5 u04) == 39) = true then
              some (.ret false)
            else
              if 0 ≤ u04 ∧ (u04).toNat < z5.size then
                if ((bt z5 u04) == 34) = true then
                  some (.ret false)
                else
                  pimpl_nameOk_L1 k z5 m (wr.i64 (u04 + 1))
              else none
          else none
      else none
    else
      some (.done ())
def pimpl_nameOk (k : Nat) (z5 : ByteArray) : Option Bool :=
  (pimpl_nameOk_L1 k z5 k 0).bind fun out1 => match out1 with
  | .ret r => some r
  | .done () =>
    (pimpl_within k (z5.size : Int) 1 20).bind fun uc6 =>
    some uc6
theorem cimpl_nameOk {k : Nat} {z5 : ByteArray} {r : Bool} (h : pimpl_nameOk k z5 = some r) : FnO Try.prog 91 [.v (.str z5) []] (.v (.bool r) []) [] := by
  refine FnO.o2 Try.func91 (rfl : Try.f91.body = some _) ?_
  intro w0 X0 Fin pv0 pb
  unfold pimpl_nameOk at h
  apply Wc.seq
  refine Wc.r0 ⟨[tS 0 z5], [], []⟩ ?_
  apply Wc.seq
  apply Wc.seq
  refine Wc.r0 ⟨[tS 0 z5, tI 3 0], [], []⟩ ?_
  obtain ⟨out1, h148, h⟩ := obind h
  refine Wc.lastJ (fun st => out1 = .done () ∧ st = ⟨[tS 0 z5], [], []⟩) ?_ ?_
  · refine Wc.block ?_
    refine Wc.loop (fun m st => ∃ (u04 : Int), st = ⟨[tS 0 z5, tI 3 u04], [], []⟩ ∧ pimpl_nameOk_L1 k z5 m u04 = some out1) ?_ k ⟨_, rfl, h148⟩
    rintro m st ⟨u04, rfl, h148⟩
    cases m with
    | zero => exact (onone h148).elim
    | succ m =>
      apply Wc.seq
      apply Wc.seq
      refine Wc.r0 ⟨[tS 0 z5, tI 3 u04, tB 7 (decide (u04 < (z5.size : Int)))], [], []⟩ ?_
      rcases oif h148 with ⟨h149, h148⟩ | ⟨h149, h148⟩
      · refine Wc.cT h149 ?_
        refine Wc.fx [] ⟨[tS 0 z5, tI 3 u04], [], []⟩ ?_
        refine Wc.skip ?_
        apply Wc.seq
        refine Wc.block ?_
        apply Wc.seq
        obtain ⟨h150, h148⟩ := oguard h148
        obtain ⟨u9o, h151, h148⟩ := obind h148
        rcases oif h148 with ⟨h152, h148⟩ | ⟨h152, h148⟩
        · refine Wc.r2 [{}, {}, {}, {}, { r := some (.v (.bool u9o) []) }, {}, { re := some (.bool true) }] ⟨[tS 0 z5, tI 3 u04, tB 27 true], [], []⟩ (.cons h150 (.cons (cimpl_within h151) (.cons (congrArg AV.bool h152) .nil))) ?_
          refine Wc.cT rfl ?_
          apply Wc.seq
          refine Wc.r0 ⟨[tB 2 false], [], []⟩ ?_
          refine Wc.ret ?_
          obtain rfl := Option.some.inj h148
          obtain rfl := Option.some.inj h
          exact ⟨.inl rfl, by kernel_rfl, by kernel_rfl⟩
        · obtain ⟨h153, h148⟩ := oguard h148
          rcases oif h148 with ⟨h154, h148⟩ | ⟨h154, h148⟩
          · refine Wc.r2 [{}, {}, {}, {}, { r := some (.v (.bool u9o) []) }, {}, { re := some (.bool false) }, {}, {}, {}, {}, {}, { re := some (.bool true) }] ⟨[tS 0 z5, tI 3 u04, tB 27 true], [], []⟩ (.cons h150 (.cons (cimpl_within h151) (.cons (congrArg AV.bool h152) (.cons h153 (.cons (congrArg AV.bool h154) .nil))))) ?_
            refine Wc.cT rfl ?_
            apply Wc.seq
            refine Wc.r0 ⟨[tB 2 false], [], []⟩ ?_
            refine Wc.ret ?_
            obtain rfl := Option.some.inj h148
            obtain rfl := Option.some.inj h
            exact ⟨.inl rfl, by kernel_rfl, by kernel_rfl⟩
          · obtain ⟨h155, h148⟩ := oguard h148
            refine Wc.r2 [{}, {}, {}, {}, { r := some (.v (.bool u9o) []) }, {}, { re := some (.bool false) }, {}, {}, {}, {}, {}, { re := some (.bool false) }] ⟨[tS 0 z5, tI 3 u04, tB 27 ((bt z5 u04) == 34)], [], []⟩ (.cons h150 (.cons (cimpl_within h151) (.cons (congrArg AV.bool h152) (.cons h153 (.cons (congrArg AV.bool h154) (.cons h155 .nil)))))) ?_
            rcases oif h148 with ⟨h156, h148⟩ | ⟨h156, h148⟩
            · refine Wc.cT h156 ?_
              apply Wc.seq
              refine Wc.r0 ⟨[tB 2 false], [], []⟩ ?_
              refine Wc.ret ?_
              obtain rfl := Option.some.inj h148
              obtain rfl := Option.some.inj h
              exact ⟨.inl rfl, by kernel_rfl, by kernel_rfl⟩
            · refine Wc.cF h156 ?_
              refine Wc.fx [] ⟨[tS 0 z5, tI 3 u04], [], []⟩ ?_
              refine Wc.skip ?_
              refine Wc.r0 ⟨[tS 0 z5, tI 3 (wr.i64 (u04 + 1))], [], []⟩ ?_
              exact ⟨_, Nat.lt_succ_self _, _, rfl, h148⟩
      · refine Wc.cF h149 ?_
        refine Wc.fx [] ⟨[tS 0 z5], [], []⟩ ?_
        refine Wc.exit ?_
        obtain rfl := Option.some.inj h148
        exact ⟨rfl, rfl⟩
  · rintro st ⟨rfl, rfl⟩
    apply Wc.seq
    obtain ⟨uc6, h157, h⟩ := obind h
    refine Wc.r2 [{}, {}, { r := some (.v (.bool uc6) []) }] ⟨[tB 2 uc6], [], []⟩ (.cons (cimpl_within h157) .nil) ?_
    obtain rfl := Option.some.inj h; exact Wc.ret dn

def pimpl_sized_L2 (k : Nat) (rimpl_sized : GTerm → Int → Option Int) (u9 : GTerm) (un : Int) : Nat → Int → Int → Option (Out Int Int)
  | 0, _, _ => none
  | m + 1, u2a, u2o =>
    if (decide (u2o < (u9.gKids.length : Int))) = true then
      (at' u9.gKids u2o).bind fun u7l =>
      (rimpl_sized u7l (wr.i64 (un + 1))).bind fun u57 =>
      if (decide ((wr.i64 (u2a + u57)) > 400)) = true then
        some (.ret 401)
      else
        pimpl_sized_L2 k rimpl_sized u9 un m (wr.i64 (u2a + u57)) (wr.i64 (u2o + 1))
    else
      some (.done u2a)
def pimpl_sized_J1 (k : Nat) (rimpl_sized : GTerm → Int → Option Int) (u9 : GTerm) (un : Int) : Option Int :=
  (pimpl_sized_L2 k rimpl_sized u9 un k 1 0).bind fun out2 => match out2 with
  | .ret r => some r
  | .done u7m =>
    some u7m
mutual
def pimpl_sized : Nat → GTerm → Int → Option Int
  | 0, _, _ => none
  | k + 1, u9, un =>
    if (decide (un > 40)) = true then
      some 401
    else
      if (u9.gKind == 1) = true then
        if (!(sEq u9.gName (bs []))) = true then
          some 401
        else
          (pimpl_within k u9.gNum 0 99999).bind fun uc7 =>
          if (!uc7) = true then
            some 401
          else
            if (decide ((u9.gKids.length : Int) > 0)) = true then
              some 401
            else
              pimpl_sized_J1 k (pimpl_sized k) u9 un
      else
        if (u9.gKind == 2) = true then
          (pimpl_nameOk k u9.gName).bind fun u9p =>
          if (!u9p) = true then
            some 401
          else
            if (u9.gNum != 0) = true then
              some 401
            else
              if (decide ((u9.gKids.length : Int) > 0)) = true then
                some 401
              else
                pimpl_sized_J1 k (pimpl_sized k) u9 un
        else
          if (u9.gKind == 3) = true then
            if (!(sEq u9.gName (bs []))) = true then
              some 401
            else
              (pimpl_within k u9.gNum (-999999999) 999999999).bind fun uc8 =>
              if (!uc8) = true then
                some 401
              else
                if (decide ((u9.gKids.length : Int) > 0)) = true then
                  some 401
                else
                  pimpl_sized_J1 k (pimpl_sized k) u9 un
          else
            if (u9.gKind == 4) = true then
              (pimpl_nameOk k u9.gName).bind fun u9q =>
              if (!u9q) = true then
                some 401
              else
                if (u9.gNum != 0) = true then
                  some 401
                else
                  (pimpl_within k (u9.gKids.length : Int) 1 5).bind fun uc9 =>
                  if (!uc9) = true then
                    some 401
                  else
                    pimpl_sized_J1 k (pimpl_sized k) u9 un
            else
              some 401
end
set_option maxHeartbeats 4000000 in
theorem all_pimpl_sized : ∀ k : Nat, (∀ {u9 : GTerm} {un : Int} {r : Int}, pimpl_sized k u9 un = some r → FnO Try.prog 129 [.v (.agg (GTerm.q u9)) [], .v (aI un) []] (.v (aI r) []) []) := by
  intro k
  induction k with
  | zero =>
    · intro u9 un r h
      exact (onone (by rw [pimpl_sized] at h; exact h)).elim
  | succ k ih =>
    have ih_pimpl_sized := @ih
    · intro u9 un r h
      rw [pimpl_sized] at h
      refine FnO.o2 Try.func129 (rfl : Try.f129.body = some _) ?_
      intro w0 X0 Fin pv0 pb
      apply Wc.seq
      refine Wc.r0 ⟨[tI 1 un, tP 2 2], [bC 2 (GTerm.q u9)], []⟩ ?_
      apply Wc.seq
      apply Wc.seq
      refine Wc.r0 ⟨[tI 1 un, tP 2 2, tB 9 (decide (un > 40))], [bC 2 (GTerm.q u9)], []⟩ ?_
      rcases oif h with ⟨h158, h⟩ | ⟨h158, h⟩
      · refine Wc.cT h158 ?_
        apply Wc.seq
        refine Wc.r0 ⟨[tI 4 401], [], []⟩ ?_
        obtain rfl := Option.some.inj h; exact Wc.ret dn
      · refine Wc.cF h158 ?_
        refine Wc.fx [] ⟨[tI 1 un, tP 2 2], [bC 2 (GTerm.q u9)], []⟩ ?_
        refine Wc.skip ?_
        refine Wc.seqJ (fun st => st = ⟨[tI 1 un, tP 2 2], [bC 2 (GTerm.q u9)], []⟩ ∧ pimpl_sized_J1 k (pimpl_sized k) u9 un = some r) ?_ ?_
        · apply Wc.seq
          refine Wc.r0 ⟨[tI 1 un, tP 2 2, tI 11 u9.gKind], [bC 2 (GTerm.q u9)], []⟩ ?_
          refine Wc.block ?_
          apply Wc.seq
          refine Wc.r0 ⟨[tI 1 un, tP 2 2, tI 11 u9.gKind, tB 12 (u9.gKind == 1)], [bC 2 (GTerm.q u9)], []⟩ ?_
          rcases oif h with ⟨h164, h⟩ | ⟨h164, h⟩
          · refine Wc.cT h164 ?_
            apply Wc.seq
            rcases oif h with ⟨h165, h⟩ | ⟨h165, h⟩
            · refine Wc.r2 [{}, {}, {}, { re := some (.bool true) }] ⟨[tI 1 un, tP 2 2, tB 28 true], [bC 2 (GTerm.q u9)], []⟩ (.cons (congrArg AV.bool h165) .nil) ?_
              refine Wc.cT rfl ?_
              apply Wc.seq
              refine Wc.r0 ⟨[tI 4 401], [], []⟩ ?_
              obtain rfl := Option.some.inj h; exact Wc.ret dn
            · obtain ⟨uc7, h166, h⟩ := obind h
              rcases oif h with ⟨h167, h⟩ | ⟨h167, h⟩
              · refine Wc.r2 [{}, {}, {}, { re := some (.bool false) }, {}, {}, { r := some (.v (.bool uc7) []) }, {}, {}, { re := some (.bool true) }] ⟨[tI 1 un, tP 2 2, tB 28 true], [bC 2 (GTerm.q u9)], []⟩ (.cons (congrArg AV.bool h165) (.cons (cimpl_within h166) (.cons (congrArg AV.bool h167) .nil))) ?_
                refine Wc.cT rfl ?_
                apply Wc.seq
                refine Wc.r0 ⟨[tI 4 401], [], []⟩ ?_
                obtain rfl := Option.some.inj h; exact Wc.ret dn
              · refine Wc.r2 [{}, {}, {}, { re := some (.bool false) }, {}, {}, { r := some (.v (.bool uc7) []) }, {}, {}, { re := some (.bool false) }, {}, {}, { v := some (aI (u9.gKids.length : Int)) }] ⟨[tI 1 un, tP 2 2, tB 28 (decide ((u9.gKids.length : Int) > 0))], [bC 2 (GTerm.q u9)], []⟩ (.cons (congrArg AV.bool h165) (.cons (cimpl_within h166) (.cons (congrArg AV.bool h167) (.cons (len_obl GTerm.c u9.gKids) .nil)))) ?_
                rcases oif h with ⟨h168, h⟩ | ⟨h168, h⟩
                · refine Wc.cT h168 ?_
                  apply Wc.seq
                  refine Wc.r0 ⟨[tI 4 401], [], []⟩ ?_
                  obtain rfl := Option.some.inj h; exact Wc.ret dn
                · refine Wc.cF h168 ?_
                  refine Wc.fx [] ⟨[tI 1 un, tP 2 2], [bC 2 (GTerm.q u9)], []⟩ ?_
                  refine Wc.skip ?_
                  exact ⟨rfl, h⟩
          · refine Wc.cF h164 ?_
            apply Wc.seq
            refine Wc.r0 ⟨[tI 1 un, tP 2 2, tI 11 u9.gKind, tB 29 (u9.gKind == 2)], [bC 2 (GTerm.q u9)], []⟩ ?_
            rcases oif h with ⟨h169, h⟩ | ⟨h169, h⟩
            · refine Wc.cT h169 ?_
              apply Wc.seq
              obtain ⟨u9p, h170, h⟩ := obind h
              rcases oif h with ⟨h171, h⟩ | ⟨h171, h⟩
              · refine Wc.r2 [{}, {}, { r := some (.v (.bool u9p) []) }, {}, { re := some (.bool true) }] ⟨[tI 1 un, tP 2 2, tB 45 true], [bC 2 (GTerm.q u9)], []⟩ (.cons (cimpl_nameOk h170) (.cons (congrArg AV.bool h171) .nil)) ?_
                refine Wc.cT rfl ?_
                apply Wc.seq
                refine Wc.r0 ⟨[tI 4 401], [], []⟩ ?_
                obtain rfl := Option.some.inj h; exact Wc.ret dn
              · rcases oif h with ⟨h172, h⟩ | ⟨h172, h⟩
                · refine Wc.r2 [{}, {}, { r := some (.v (.bool u9p) []) }, {}, { re := some (.bool false) }, {}, {}, {}, {}, { re := some (.bool true) }] ⟨[tI 1 un, tP 2 2, tB 45 true], [bC 2 (GTerm.q u9)], []⟩ (.cons (cimpl_nameOk h170) (.cons (congrArg AV.bool h171) (.cons (congrArg AV.bool h172) .nil))) ?_
                  refine Wc.cT rfl ?_
                  apply Wc.seq
                  refine Wc.r0 ⟨[tI 4 401], [], []⟩ ?_
                  obtain rfl := Option.some.inj h; exact Wc.ret dn
                · refine Wc.r2 [{}, {}, { r := some (.v (.bool u9p) []) }, {}, { re := some (.bool false) }, {}, {}, {}, {}, { re := some (.bool false) }, {}, {}, { v := some (aI (u9.gKids.length : Int)) }] ⟨[tI 1 un, tP 2 2, tB 45 (decide ((u9.gKids.length : Int) > 0))], [bC 2 (GTerm.q u9)], []⟩ (.cons (cimpl_nameOk h170) (.cons (congrArg AV.bool h171) (.cons (congrArg AV.bool h172) (.cons (len_obl GTerm.c u9.gKids) .nil)))) ?_
                  rcases oif h with ⟨h173, h⟩ | ⟨h173, h⟩
                  · refine Wc.cT h173 ?_
                    apply Wc.seq
                    refine Wc.r0 ⟨[tI 4 401], [], []⟩ ?_
                    obtain rfl := Option.some.inj h; exact Wc.ret dn
                  · refine Wc.cF h173 ?_
                    refine Wc.fx [] ⟨[tI 1 un, tP 2 2], [bC 2 (GTerm.q u9)], []⟩ ?_
                    refine Wc.skip ?_
                    exact ⟨rfl, h⟩
            · refine Wc.cF h169 ?_
              apply Wc.seq
              refine Wc.r0 ⟨[tI 1 un, tP 2 2, tI 11 u9.gKind, tB 46 (u9.gKind == 3)], [bC 2 (GTerm.q u9)], []⟩ ?_
              rcases oif h with ⟨h174, h⟩ | ⟨h174, h⟩
              · refine Wc.cT h174 ?_
                apply Wc.seq
                rcases oif h with ⟨h175, h⟩ | ⟨h175, h⟩
                · refine Wc.r2 [{}, {}, {}, { re := some (.bool true) }] ⟨[tI 1 un, tP 2 2, tB 62 true], [bC 2 (GTerm.q u9)], []⟩ (.cons (congrArg AV.bool h175) .nil) ?_
                  refine Wc.cT rfl ?_
                  apply Wc.seq
                  refine Wc.r0 ⟨[tI 4 401], [], []⟩ ?_
                  obtain rfl := Option.some.inj h; exact Wc.ret dn
                · obtain ⟨uc8, h176, h⟩ := obind h
                  rcases oif h with ⟨h177, h⟩ | ⟨h177, h⟩
                  · refine Wc.r2 [{}, {}, {}, { re := some (.bool false) }, {}, {}, { r := some (.v (.bool uc8) []) }, {}, {}, { re := some (.bool true) }] ⟨[tI 1 un, tP 2 2, tB 62 true], [bC 2 (GTerm.q u9)], []⟩ (.cons (congrArg AV.bool h175) (.cons (cimpl_within h176) (.cons (congrArg AV.bool h177) .nil))) ?_
                    refine Wc.cT rfl ?_
                    apply Wc.seq
                    refine Wc.r0 ⟨[tI 4 401], [], []⟩ ?_
                    obtain rfl := Option.some.inj h; exact Wc.ret dn
                  · refine Wc.r2 [{}, {}, {}, { re := some (.bool false) }, {}, {}, { r := some (.v (.bool uc8) []) }, {}, {}, { re := some (.bool false) }, {}, {}, { v := some (aI (u9.gKids.length : Int)) }] ⟨[tI 1 un, tP 2 2, tB 62 (decide ((u9.gKids.length : Int) > 0))], [bC 2 (GTerm.q u9)], []⟩ (.cons (congrArg AV.bool h175) (.cons (cimpl_within h176) (.cons (congrArg AV.bool h177) (.cons (len_obl GTerm.c u9.gKids) .nil)))) ?_
                    rcases oif h with ⟨h178, h⟩ | ⟨h178, h⟩
                    · refine Wc.cT h178 ?_
                      apply Wc.seq
                      refine Wc.r0 ⟨[tI 4 401], [], []⟩ ?_
                      obtain rfl := Option.some.inj h; exact Wc.ret dn
                    · refine Wc.cF h178 ?_
                      refine Wc.fx [] ⟨[tI 1 un, tP 2 2], [bC 2 (GTerm.q u9)], []⟩ ?_
                      refine Wc.skip ?_
                      exact ⟨rfl, h⟩
              · refine Wc.cF h174 ?_
                apply Wc.seq
                refine Wc.r0 ⟨[tI 1 un, tP 2 2, tB 63 (u9.gKind == 4)], [bC 2 (GTerm.q u9)], []⟩ ?_
                rcases oif h with ⟨h179, h⟩ | ⟨h179, h⟩
                · refine Wc.cT h179 ?_
                  apply Wc.seq
                  obtain ⟨u9q, h180, h⟩ := obind h
                  rcases oif h with ⟨h181, h⟩ | ⟨h181, h⟩
                  · refine Wc.r2 [{}, {}, { r := some (.v (.bool u9q) []) }, {}, { re := some (.bool true) }] ⟨[tI 1 un, tP 2 2, tB 80 true], [bC 2 (GTerm.q u9)], []⟩ (.cons (cimpl_nameOk h180) (.cons (congrArg AV.bool h181) .nil)) ?_
                    refine Wc.cT rfl ?_
                    apply Wc.seq
                    refine Wc.r0 ⟨[tI 4 401], [], []⟩ ?_
                    obtain rfl := Option.some.inj h; exact Wc.ret dn
                  · rcases oif h with ⟨h182, h⟩ | ⟨h182, h⟩
                    · refine Wc.r2 [{}, {}, { r := some (.v (.bool u9q) []) }, {}, { re := some (.bool false) }, {}, {}, {}, {}, { re := some (.bool true) }] ⟨[tI 1 un, tP 2 2, tB 80 true], [bC 2 (GTerm.q u9)], []⟩ (.cons (cimpl_nameOk h180) (.cons (congrArg AV.bool h181) (.cons (congrArg AV.bool h182) .nil))) ?_
                      refine Wc.cT rfl ?_
                      apply Wc.seq
                      refine Wc.r0 ⟨[tI 4 401], [], []⟩ ?_
                      obtain rfl := Option.some.inj h; exact Wc.ret dn
                    · obtain ⟨uc9, h183, h⟩ := obind h
                      refine Wc.r2 [{}, {}, { r := some (.v (.bool u9q) []) }, {}, { re := some (.bool false) }, {}, {}, {}, {}, { re := some (.bool false) }, {}, {}, { v := some (aI (u9.gKids.length : Int)) }, { r := some (.v (.bool uc9) []) }] ⟨[tI 1 un, tP 2 2, tB 80 (!uc9)], [bC 2 (GTerm.q u9)], []⟩ (.cons (cimpl_nameOk h180) (.cons (congrArg AV.bool h181) (.cons (congrArg AV.bool h182) (.cons (len_obl GTerm.c u9.gKids) (.cons (cimpl_within h183) .nil))))) ?_
                      rcases oif h with ⟨h184, h⟩ | ⟨h184, h⟩
                      · refine Wc.cT h184 ?_
                        apply Wc.seq
                        refine Wc.r0 ⟨[tI 4 401], [], []⟩ ?_
                        obtain rfl := Option.some.inj h; exact Wc.ret dn
                      · refine Wc.cF h184 ?_
                        refine Wc.fx [] ⟨[tI 1 un, tP 2 2], [bC 2 (GTerm.q u9)], []⟩ ?_
                        refine Wc.skip ?_
                        exact ⟨rfl, h⟩
                · refine Wc.cF h179 ?_
                  apply Wc.seq
                  refine Wc.r0 ⟨[tI 4 401], [], []⟩ ?_
                  obtain rfl := Option.some.inj h; exact Wc.ret dn
        · rintro st ⟨rfl, h⟩
          apply Wc.seq
          refine Wc.r0 ⟨[tI 1 un, tP 2 2, tI 5 1], [bC 2 (GTerm.q u9)], []⟩ ?_
          apply Wc.seq
          apply Wc.seq
          refine Wc.r2 [{}, {}, { v := some (aI (u9.gKids.length : Int)) }] ⟨[tI 1 un, tI 5 1, tV 82 (.sl (List.map GTerm.c u9.gKids)), tI 83 (u9.gKids.length : Int), tI 84 0], [], []⟩ (.cons (len_obl GTerm.c u9.gKids) .nil) ?_
          obtain ⟨out2, h159, h⟩ := obind h
          refine Wc.lastJ (fun st => ∃ (u7m : Int), out2 = .done u7m ∧ st = ⟨[tI 5 u7m], [], []⟩) ?_ ?_
          · refine Wc.block ?_
            refine Wc.loop (fun m st => ∃ (u2a : Int) (u2o : Int), st = ⟨[tI 1 un, tI 5 u2a, tV 82 (.sl (List.map GTerm.c u9.gKids)), tI 83 (u9.gKids.length : Int), tI 84 u2o], [], []⟩ ∧ pimpl_sized_L2 k (pimpl_sized k) u9 un m u2a u2o = some out2) ?_ k ⟨_, _, rfl, h159⟩
            rintro m st ⟨u2a, u2o, rfl, h159⟩
            cases m with
            | zero => exact (onone h159).elim
            | succ m =>
              apply Wc.seq
              refine Wc.r0 ⟨[tI 1 un, tI 5 u2a, tV 82 (.sl (List.map GTerm.c u9.gKids)), tI 83 (u9.gKids.length : Int), tI 84 u2o, tB 85 (decide (u2o < (u9.gKids.length : Int)))], [], []⟩ ?_
              apply Wc.seq
              rcases oif h159 with ⟨h160, h159⟩ | ⟨h160, h159⟩
              · refine Wc.cT h160 ?_
                refine Wc.fx [] ⟨[tI 1 un, tI 5 u2a, tV 82 (.sl (List.map GTerm.c u9.gKids)), tI 83 (u9.gKids.length : Int), tI 84 u2o], [], []⟩ ?_
                refine Wc.skip ?_
                apply Wc.seq
                refine Wc.block ?_
                apply Wc.seq
                obtain ⟨u7l, h161, h159⟩ := obind h159
                refine Wc.r2 [{ v := some (.vptr (GTerm.q u7l)) }] ⟨[tI 1 un, tI 5 u2a, tP 7 7, tV 82 (.sl (List.map GTerm.c u9.gKids)), tI 83 (u9.gKids.length : Int), tI 84 u2o], [bC 7 (GTerm.q u7l)], []⟩ (.cons (at_obl (c := GTerm.c) (GTerm.c_eq u7l) GTerm.c_len h161) (.cons (len_ok 4 (GTerm.q u7l)) .nil)) ?_
                apply Wc.seq
                obtain ⟨u57, h162, h159⟩ := obind h159
                refine Wc.r2 [{}, {}, {}, {}, { r := some (.v (aI u57) []) }] ⟨[tI 1 un, tI 5 (wr.i64 (u2a + u57)), tV 82 (.sl (List.map GTerm.c u9.gKids)), tI 83 (u9.gKids.length : Int), tI 84 u2o], [], []⟩ (.cons (ih_pimpl_sized h162) .nil) ?_
                apply Wc.seq
                refine Wc.r0 ⟨[tI 1 un, tI 5 (wr.i64 (u2a + u57)), tV 82 (.sl (List.map GTerm.c u9.gKids)), tI 83 (u9.gKids.length : Int), tI 84 u2o, tB 95 (decide ((wr.i64 (u2a + u57)) > 400))], [], []⟩ ?_
                rcases oif h159 with ⟨h163, h159⟩ | ⟨h163, h159⟩
                · refine Wc.cT h163 ?_
                  apply Wc.seq
                  refine Wc.r0 ⟨[tI 4 401], [], []⟩ ?_
                  refine Wc.ret ?_
                  obtain rfl := Option.some.inj h159
                  obtain rfl := Option.some.inj h
                  exact ⟨.inl rfl, by kernel_rfl, by kernel_rfl⟩
                · refine Wc.cF h163 ?_
                  refine Wc.fx [] ⟨[tI 1 un, tI 5 (wr.i64 (u2a + u57)), tV 82 (.sl (List.map GTerm.c u9.gKids)), tI 83 (u9.gKids.length : Int), tI 84 u2o], [], []⟩ ?_
                  refine Wc.skip ?_
                  refine Wc.r0 ⟨[tI 1 un, tI 5 (wr.i64 (u2a + u57)), tV 82 (.sl (List.map GTerm.c u9.gKids)), tI 83 (u9.gKids.length : Int), tI 84 (wr.i64 (u2o + 1))], [], []⟩ ?_
                  exact ⟨_, Nat.lt_succ_self _, _, _, rfl, h159⟩
              · refine Wc.cF h160 ?_
                refine Wc.fx [] ⟨[tI 5 u2a], [], []⟩ ?_
                refine Wc.exit ?_
                obtain rfl := Option.some.inj h159
                exact ⟨_, rfl, rfl⟩
          · rintro st ⟨u7m, rfl, rfl⟩
            apply Wc.seq
            refine Wc.r0 ⟨[tI 4 u7m], [], []⟩ ?_
            obtain rfl := Option.some.inj h; exact Wc.ret dn
theorem cimpl_sized {k : Nat} {u9 : GTerm} {un : Int} {r : Int} (h : pimpl_sized k u9 un = some r) : FnO Try.prog 129 [.v (.agg (GTerm.q u9)) [], .v (aI un) []] (.v (aI r) []) [] := (all_pimpl_sized k) h

def pimpl_TermOk (k : Nat) (u9r : GTerm) : Option Bool :=
  (pimpl_sized k u9r 1).bind fun uca =>
  some (decide (uca ≤ 400))
theorem cimpl_TermOk {k : Nat} {u9r : GTerm} {r : Bool} (h : pimpl_TermOk k u9r = some r) : FnO Try.prog 72 [.v (.agg (GTerm.q u9r)) []] (.v (.bool r) []) [] := by
  refine FnO.o2 Try.func72 (rfl : Try.f72.body = some _) ?_
  intro w0 X0 Fin pv0 pb
  unfold pimpl_TermOk at h
  apply Wc.seq
  refine Wc.r0 ⟨[tP 1 1], [bC 1 (GTerm.q u9r)], []⟩ ?_
  apply Wc.seq
  obtain ⟨uca, h185, h⟩ := obind h
  refine Wc.r2 [{}, { r := some (.v (aI uca) []) }] ⟨[tB 2 (decide (uca ≤ 400))], [], []⟩ (.cons (cimpl_sized h185) .nil) ?_
  obtain rfl := Option.some.inj h; exact Wc.ret dn

def pslices_Index___int_int__L1 (k : Nat) (z6 : List Int) (u1m : Int) : Nat → Int → Option (Out Int Unit)
  | 0, _ => none
  | m + 1, u1n =>
    if (decide (u1n < (z6.length : Int))) = true then
      (at' z6 u1n).bind fun u9s =>
      if (u1m == u9s) = true then
        some (.ret u1n)
      else
        pslices_Index___int_int__L1 k z6 u1m m (wr.i64 (u1n + 1))
    else
      some (.done ())
def pslices_Index___int_int_ (k : Nat) (z6 : List Int) (u1m : Int) : Option Int :=
  (pslices_Index___int_int__L1 k z6 u1m k 0).bind fun out1 => match out1 with
  | .ret r => some r
  | .done () =>
    some (-1)
theorem cslices_Index___int_int_ {k : Nat} {z6 : List Int} {u1m : Int} {r : Int} (h : pslices_Index___int_int_ k z6 u1m = some r) : FnO Try.prog 146 [.v (.sl (List.map cI.i64 z6)) [], .v (aI u1m) []] (.v (aI r) []) [] := by
  refine FnO.o2 Try.func146 (rfl : Try.f146.body = some _) ?_
  intro w0 X0 Fin pv0 pb
  unfold pslices_Index___int_int_ at h
  apply Wc.seq
  refine Wc.r0 ⟨[tV 0 (.sl (List.map cI.i64 z6)), tI 1 u1m], [], []⟩ ?_
  apply Wc.seq
  apply Wc.seq
  refine Wc.r2 [{}, { v := some (aI (z6.length : Int)) }] ⟨[tV 0 (.sl (List.map cI.i64 z6)), tI 1 u1m, tI 7 (z6.length : Int), tI 8 0], [], []⟩ (.cons (len_obl cI.i64 z6) .nil) ?_
  obtain ⟨out1, h186, h⟩ := obind h
  refine Wc.lastJ (fun st => out1 = .done () ∧ st = ⟨[], [], []⟩) ?_ ?_
  · refine Wc.block ?_
    refine Wc.loop (fun m st => ∃ (u1n : Int), st = ⟨[tV 0 (.sl (List.map cI.i64 z6)), tI 1 u1m, tI 7 (z6.length : Int), tI 8 u1n], [], []⟩ ∧ pslices_Index___int_int__L1 k z6 u1m m u1n = some out1) ?_ k ⟨_, rfl, h186⟩
    rintro m st ⟨u1n, rfl, h186⟩
    cases m with
    | zero => exact (onone h186).elim
    | succ m =>
      apply Wc.seq
      refine Wc.r0 ⟨[tV 0 (.sl (List.map cI.i64 z6)), tI 1 u1m, tI 7 (z6.length : Int), tI 8 u1n, tB 9 (decide (u1n < (z6.length : Int)))], [], []⟩ ?_
      apply Wc.seq
      rcases oif h186 with ⟨h187, h186⟩ | ⟨h187, h186⟩
      · refine Wc.cT h187 ?_
        refine Wc.fx [] ⟨[tV 0 (.sl (List.map cI.i64 z6)), tI 1 u1m, tI 7 (z6.length : Int), tI 8 u1n], [], []⟩ ?_
        refine Wc.skip ?_
        apply Wc.seq
        refine Wc.block ?_
        apply Wc.seq
        refine Wc.r0 ⟨[tV 0 (.sl (List.map cI.i64 z6)), tI 1 u1m, tI 5 u1n, tI 7 (z6.length : Int), tI 8 u1n], [], []⟩ ?_
        apply Wc.seq
        obtain ⟨u9s, h188, h186⟩ := obind h186
        refine Wc.r2 [{}, {}, {}, { v := some (.vptr [aI u9s]) }] ⟨[tV 0 (.sl (List.map cI.i64 z6)), tI 1 u1m, tI 5 u1n, tI 7 (z6.length : Int), tI 8 u1n, tB 16 (u1m == u9s)], [], []⟩ (.cons (at_obl (c := cI.i64) rfl cI.i64_len h188) (.cons (len_ok 1 [aI u9s]) .nil)) ?_
        rcases oif h186 with ⟨h189, h186⟩ | ⟨h189, h186⟩
        · refine Wc.cT h189 ?_
          apply Wc.seq
          refine Wc.r0 ⟨[tI 4 u1n], [], []⟩ ?_
          refine Wc.ret ?_
          obtain rfl := Option.some.inj h186
          obtain rfl := Option.some.inj h
          exact ⟨.inl rfl, by kernel_rfl, by kernel_rfl⟩
        · refine Wc.cF h189 ?_
          refine Wc.fx [] ⟨[tV 0 (.sl (List.map cI.i64 z6)), tI 1 u1m, tI 7 (z6.length : Int), tI 8 u1n], [], []⟩ ?_
          refine Wc.skip ?_
          refine Wc.r0 ⟨[tV 0 (.sl (List.map cI.i64 z6)), tI 1 u1m, tI 7 (z6.length : Int), tI 8 (wr.i64 (u1n + 1))], [], []⟩ ?_
          exact ⟨_, Nat.lt_succ_self _, _, rfl, h186⟩
      · refine Wc.cF h187 ?_
        refine Wc.fx [] ⟨[], [], []⟩ ?_
        refine Wc.exit ?_
        obtain rfl := Option.some.inj h186
        exact ⟨rfl, rfl⟩
  · rintro st ⟨rfl, rfl⟩
    apply Wc.seq
    refine Wc.r0 ⟨[tI 4 (-1)], [], []⟩ ?_
    obtain rfl := Option.some.inj h; exact Wc.ret dn

def pslices_Contains___int_int_ (k : Nat) (u9t : List Int) (u9u : Int) : Option Bool :=
  (pslices_Index___int_int_ k u9t u9u).bind fun ucb =>
  some (decide (ucb ≥ 0))
theorem cslices_Contains___int_int_ {k : Nat} {u9t : List Int} {u9u : Int} {r : Bool} (h : pslices_Contains___int_int_ k u9t u9u = some r) : FnO Try.prog 97 [.v (.sl (List.map cI.i64 u9t)) [], .v (aI u9u) []] (.v (.bool r) []) [] := by
  refine FnO.o2 Try.func97 (rfl : Try.f97.body = some _) ?_
  intro w0 X0 Fin pv0 pb
  unfold pslices_Contains___int_int_ at h
  apply Wc.seq
  refine Wc.r0 ⟨[tV 0 (.sl (List.map cI.i64 u9t)), tI 1 u9u], [], []⟩ ?_
  apply Wc.seq
  obtain ⟨ucb, h190, h⟩ := obind h
  refine Wc.r2 [{}, {}, { r := some (.v (aI ucb) []) }] ⟨[tB 4 (decide (ucb ≥ 0))], [], []⟩ (.cons (cslices_Index___int_int_ h190) .nil) ?_
  obtain rfl := Option.some.inj h; exact Wc.ret dn

def pimpl_wordsOf_L1 (k : Nat) (rimpl_wordsOf : GTerm → (List Int) → Option ((List GIns) × (List Int))) (ua : GTerm) : Nat → (List Int) → (List GIns) → Int → Option (Out ((List GIns) × (List Int)) ((List Int) × (List GIns)))
  | 0, _, _, _ => none
  | m + 1, u49, u1o, u2p =>
    if (decide (u2p < (ua.gKids.length : Int))) = true then
      (at' ua.gKids u2p).bind fun u6e =>
      (rimpl_wordsOf u6e u49).bind fun u2b =>
      if u1o.length + u2b.1.length ≤ 1073741824 then
        pimpl_wordsOf_L1 k rimpl_wordsOf ua m u2b.2 (u1o ++ u2b.1) (wr.i64 (u2p + 1))
      else none
    else
      some (.done (u49, u1o))
mutual
def pimpl_wordsOf : Nat → GTerm → (List Int) → Option ((List GIns) × (List Int))
  | 0, _, _ => none
  | k + 1, ua, vu =>
    if (ua.gKind == 2) = true then
      some ([GIns.mk 1 ua.gName 0 0], vu)
    else
      if (ua.gKind == 3) = true then
        some ([GIns.mk 2 (bs []) ua.gNum 0], vu)
      else
        if (ua.gKind == 1) = true then
          (pslices_Contains___int_int_ k vu ua.gNum).bind fun ucc =>
          if ucc = true then
            some ([GIns.mk 4 (bs []) ua.gNum 0], vu)
          else
            if vu.length + [ua.gNum].length ≤ 1073741824 then
              some ([GIns.mk 3 (bs []) ua.gNum 0], vu ++ [ua.gNum])
            else none
        else
          (pimpl_wordsOf_L1 k (pimpl_wordsOf k) ua k vu [GIns.mk 5 ua.gName 0 (ua.gKids.length : Int)] 0).bind fun out1 => match out1 with
          | .ret r => some r
          | .done (u7n, u7o) =>
            some (u7o, u7n)
end
set_option maxHeartbeats 4000000 in


def pimpl_WordsOf_L1 (k : Nat) (ve : List Int) : Nat → (List Int) → Int → Option (Out ((List GIns) × (List Int)) (List Int))
  | 0, _, _ => none
  | m + 1, u0s, u1y =>
    if (decide (u1y < (ve.length : Int))) = true then
      (at' ve u1y).bind fun u2c =>
      (pslices_Contains___int_int_ k u0s u2c).bind fun ucd =>
      if (!ucd) = true then
        if u0s.length + [u2c].length ≤ 1073741824 then
          pimpl_WordsOf_L1 k ve m (u0s ++ [u2c]) (wr.i64 (u1y + 1))
        else none
      else
        pimpl_WordsOf_L1 k ve m u0s (wr.i64 (u1y + 1))
    else
      some (.done u0s)
def pimpl_WordsOf (k : Nat) (u0f : GTerm) (ve : List Int) : Option ((List GIns) × (List Int)) :=
  (pimpl_WordsOf_L1 k ve k [] 0).bind fun out1 => match out1 with
  | .ret r => some r
  | .done u4r =>
    (pimpl_TermOk k u0f).bind fun uce =>
    if (!uce) = true then
      some ([], u4r)
    else
      (pimpl_wordsOf k u0f u4r).bind fun u58 =>
      some (u58.1, u58.2)


def pimpl_atom (k : Nat) (u7p : ByteArray) : Option GTerm :=
  some (GTerm.mk 2 u7p 0 [])


def pimpl_structure (k : Nat) (u7q : ByteArray) (u7r : List GTerm) : Option GTerm :=
  some (GTerm.mk 4 u7q 0 u7r)


def pimpl_number (k : Nat) (u7s : Int) : Option GTerm :=
  some (GTerm.mk 3 (bs []) u7s [])


def pimpl_variable (k : Nat) (u7t : Int) : Option GTerm :=
  some (GTerm.mk 1 (bs []) u7t [])


def pspec_l03Any_L1 (k : Nat) (z7 : GL01Cur × Int) : Nat → Int → GTerm → Option (Out (GL01Cur × GTerm) GTerm)
  | 0, _, _ => none
  | m + 1, u4a, u35 =>
    if (4 : Int) ≠ 0 then
      if (decide (u4a < (wr.i64 (38 + (Int.tmod z7.2 4))))) = true then
        pspec_l03Any_L1 k z7 m (wr.i64 (u4a + 1)) (GTerm.mk 4 (bs [115]) 0 [u35])
      else
        some (.done u35)
    else none
def pspec_l03Any (k : Nat) (u9v : GL01Cur) : Option (GL01Cur × GTerm) :=
  (pspec_l01Below k u9v 12).bind fun u15 =>
  (pspec_l01Below k u15.1 60).bind fun z7 =>
  (pspec_l03Made k z7.1 3).bind fun uh =>
  if (u15.2 == 0) = true then
    if (6 : Int) ≠ 0 then
      some (uh.1, GTerm.mk (Int.tmod z7.2 6) uh.2.gName uh.2.gNum uh.2.gKids)
    else none
  else
    if (u15.2 == 1) = true then
      if (4 : Int) ≠ 0 then
        (at' [(bs []), (bs [97, 32, 98]), (bs [39]), (bs [97, 97, 97, 97, 97, 97, 97, 97, 97, 97, 97, 97, 97, 97, 97, 97, 97, 97, 97, 97, 97])] (Int.tmod z7.2 4)).bind fun u7u =>
        some (uh.1, GTerm.mk uh.2.gKind u7u uh.2.gNum uh.2.gKids)
      else none
    else
      if (u15.2 == 2) = true then
        if (3 : Int) ≠ 0 then
          (at' [-1, 100000, 1000000000] (Int.tmod z7.2 3)).bind fun u7v =>
          some (uh.1, GTerm.mk uh.2.gKind uh.2.gName u7v uh.2.gKids)
        else none
      else
        if (u15.2 == 3) = true then
          (pspec_l03Any_L1 k z7 k 0 uh.2).bind fun out1 => match out1 with
          | .ret r => some r
          | .done u7w =>
            some (uh.1, u7w)
        else
          some (uh.1, uh.2)
set_option maxHeartbeats 4000000 in
theorem cspec_l03Any {k : Nat} {u9v : GL01Cur} {r : GL01Cur × GTerm} (h : pspec_l03Any k u9v = some r) : FnO Try.prog 87 [.p (GL01Cur.q u9v) []] (.v (.agg (GTerm.q r.2)) [(3, .app 41)]) [(0, .p (GL01Cur.q r.1) [])] := by
  refine FnO.o2 Try.func87 (rfl : Try.f87.body = some _) ?_
  intro w0 X0 Fin pv0 pb
  unfold pspec_l03Any at h
  apply Wc.seq
  refine Wc.r0 ⟨[tP 0 1000000, tP 2 2], [(2, .cells GTerm.z [(3, .app 41)]), bC 1000000 (GL01Cur.q u9v)], []⟩ ?_
  apply Wc.seq
  obtain ⟨u15, h272, h⟩ := obind h
  refine Wc.r2 [{}, { r := some (.v (aI u15.2) []), outs := [(0, .p (GL01Cur.q u15.1) [])] }] ⟨[tP 0 1000000, tP 2 2, tI 3 u15.2], [(2, .cells GTerm.z [(3, .app 41)]), bC 1000000 (GL01Cur.q u15.1)], []⟩ (.cons (cspec_l01Below h272) .nil) ?_
  apply Wc.seq
  obtain ⟨z7, h273, h⟩ := obind h
  refine Wc.r2 [{}, { r := some (.v (aI z7.2) []), outs := [(0, .p (GL01Cur.q z7.1) [])] }] ⟨[tP 0 1000000, tP 2 2, tI 3 u15.2, tI 4 z7.2], [(2, .cells GTerm.z [(3, .app 41)]), bC 1000000 (GL01Cur.q z7.1)], []⟩ (.cons (cspec_l01Below h273) .nil) ?_
  apply Wc.seq
  obtain ⟨uh, h274, h⟩ := obind h
  refine Wc.r2 [{}, { r := some (.v (.agg (GTerm.q uh.2)) [(3, .app 41)]), outs := [(0, .p (GL01Cur.q uh.1) [])] }, {}, { tk := [12] }] ⟨[tP 2 2, tI 3 u15.2, tI 4 z7.2, tP 5 5], [(2, .cells GTerm.z [(3, .app 41)]), (5, .cells (GTerm.q uh.2) [(3, .app 41)]), bC 1000000 (GL01Cur.q uh.1)], []⟩ (.cons (cspec_l03Made h274) .nil) ?_
  apply Wc.seq
  apply Wc.seq
  refine Wc.r0 ⟨[tP 2 2, tI 4 z7.2, tP 5 5, tI 13 u15.2], [(2, .cells GTerm.z [(3, .app 41)]), (5, .cells (GTerm.q uh.2) [(3, .app 41)]), bC 1000000 (GL01Cur.q uh.1)], []⟩ ?_
  refine Wc.block ?_
  apply Wc.seq
  refine Wc.r0 ⟨[tP 2 2, tI 4 z7.2, tP 5 5, tI 13 u15.2, tB 14 (u15.2 == 0)], [(2, .cells GTerm.z [(3, .app 41)]), (5, .cells (GTerm.q uh.2) [(3, .app 41)]), bC 1000000 (GL01Cur.q uh.1)], []⟩ ?_
  rcases oif h with ⟨h275, h⟩ | ⟨h275, h⟩
  · refine Wc.cT h275 ?_
    obtain ⟨h276, h⟩ := oguard h
    refine Wc.r2 [] ⟨[tP 2 2, tP 5 5], [(2, .cells GTerm.z [(3, .app 41)]), (5, .cells [aI (Int.tmod z7.2 6), .str uh.2.gName, aI uh.2.gNum, .sl (List.map GTerm.c uh.2.gKids)] [(3, .app 41)]), bC 1000000 (GL01Cur.q uh.1)], []⟩ (.cons h276 .nil) ?_
    apply Wc.seq
    refine Wc.r1 [{ md := 1 }, { tk := [47] }] ⟨[tP 2 2], [(2, .cells [aI (Int.tmod z7.2 6), .str uh.2.gName, aI uh.2.gNum, .sl (List.map GTerm.c uh.2.gKids)] [(3, .app 41)]), bC 1000000 (GL01Cur.q uh.1)], []⟩ ?_
    obtain rfl := Option.some.inj h; exact Wc.ret dn
  · refine Wc.cF h275 ?_
    apply Wc.seq
    refine Wc.r0 ⟨[tP 2 2, tI 4 z7.2, tP 5 5, tI 13 u15.2, tB 19 (u15.2 == 1)], [(2, .cells GTerm.z [(3, .app 41)]), (5, .cells (GTerm.q uh.2) [(3, .app 41)]), bC 1000000 (GL01Cur.q uh.1)], []⟩ ?_
    rcases oif h with ⟨h277, h⟩ | ⟨h277, h⟩
    · refine Wc.cT h277 ?_
      obtain ⟨h278, h⟩ := oguard h
      obtain ⟨u7u, h279, h⟩ := obind h
      refine Wc.r2 [{ c := some (List.map cS [(bs []), (bs [97, 32, 98]), (bs [39]), (bs [97, 97, 97, 97, 97, 97, 97, 97, 97, 97, 97, 97, 97, 97, 97, 97, 97, 97, 97, 97, 97])]) }, {}, {}, { v := some (.vptr [.str u7u]) }] ⟨[tP 2 2, tP 5 5], [(2, .cells GTerm.z [(3, .app 41)]), (5, .cells [aI uh.2.gKind, .str u7u, aI uh.2.gNum, .sl (List.map GTerm.c uh.2.gKids)] [(3, .app 41)]), bC 1000000 (GL01Cur.q uh.1)], []⟩ (.cons (cl_cons (c := cS) (x := (bs [])) rfl (cl_cons (c := cS) (x := (bs [97, 32, 98])) rfl (cl_cons (c := cS) (x := (bs [39])) rfl (cl_cons (c := cS) (x := (bs [97, 97, 97, 97, 97, 97, 97, 97, 97, 97, 97, 97, 97, 97, 97, 97, 97, 97, 97, 97, 97])) rfl (cl_nil cS))))) (.cons h278 (.cons (at_obl (c := cS) rfl cS_len h279) (.cons (len_ok 1 [.str u7u]) .nil)))) ?_
      apply Wc.seq
      refine Wc.r1 [{ md := 1 }, { tk := [47] }] ⟨[tP 2 2], [(2, .cells [aI uh.2.gKind, .str u7u, aI uh.2.gNum, .sl (List.map GTerm.c uh.2.gKids)] [(3, .app 41)]), bC 1000000 (GL01Cur.q uh.1)], []⟩ ?_
      obtain rfl := Option.some.inj h; exact Wc.ret dn
    · refine Wc.cF h277 ?_
      apply Wc.seq
      refine Wc.r0 ⟨[tP 2 2, tI 4 z7.2, tP 5 5, tI 13 u15.2, tB 27 (u15.2 == 2)], [(2, .cells GTerm.z [(3, .app 41)]), (5, .cells (GTerm.q uh.2) [(3, .app 41)]), bC 1000000 (GL01Cur.q uh.1)], []⟩ ?_
      rcases oif h with ⟨h280, h⟩ | ⟨h280, h⟩
      · refine Wc.cT h280 ?_
        obtain ⟨h281, h⟩ := oguard h
        obtain ⟨u7v, h282, h⟩ := obind h
        refine Wc.r2 [{ c := some (List.map cI.i64 [-1, 100000, 1000000000]) }, {}, {}, { v := some (.vptr [aI u7v]) }] ⟨[tP 2 2, tP 5 5], [(2, .cells GTerm.z [(3, .app 41)]), (5, .cells [aI uh.2.gKind, .str uh.2.gName, aI u7v, .sl (List.map GTerm.c uh.2.gKids)] [(3, .app 41)]), bC 1000000 (GL01Cur.q uh.1)], []⟩ (.cons (cl_cons (c := cI.i64) (x := -1) rfl (cl_cons (c := cI.i64) (x := 100000) rfl (cl_cons (c := cI.i64) (x := 1000000000) rfl (cl_nil cI.i64)))) (.cons h281 (.cons (at_obl (c := cI.i64) rfl cI.i64_len h282) (.cons (len_ok 1 [aI u7v]) .nil)))) ?_
        apply Wc.seq
        refine Wc.r1 [{ md := 1 }, { tk := [47] }] ⟨[tP 2 2], [(2, .cells [aI uh.2.gKind, .str uh.2.gName, aI u7v, .sl (List.map GTerm.c uh.2.gKids)] [(3, .app 41)]), bC 1000000 (GL01Cur.q uh.1)], []⟩ ?_
        obtain rfl := Option.some.inj h; exact Wc.ret dn
      · refine Wc.cF h280 ?_
        apply Wc.seq
        refine Wc.r0 ⟨[tP 2 2, tI 4 z7.2, tP 5 5, tB 35 (u15.2 == 3)], [(2, .cells GTerm.z [(3, .app 41)]), (5, .cells (GTerm.q uh.2) [(3, .app 41)]), bC 1000000 (GL01Cur.q uh.1)], []⟩ ?_
        rcases oif h with ⟨h283, h⟩ | ⟨h283, h⟩
        · refine Wc.cT h283 ?_
          apply Wc.seq
          refine Wc.r0 ⟨[tP 2 2, tI 4 z7.2, tP 5 5, tI 6 0], [(2, .cells GTerm.z [(3, .app 41)]), (5, .cells (GTerm.q uh.2) [(3, .app 41)]), bC 1000000 (GL01Cur.q uh.1)], []⟩ ?_
          obtain ⟨out1, h284, h⟩ := obind h
          refine Wc.lastJ (fun st => ∃ (u7w : GTerm), out1 = .done u7w ∧ st = ⟨[tP 2 2, tP 5 5], [(2, .cells GTerm.z [(3, .app 41)]), (5, .cells (GTerm.q u7w) [(3, .app 41)]), bC 1000000 (GL01Cur.q uh.1)], []⟩) ?_ ?_
          · refine Wc.block ?_
            refine Wc.loop (fun m st => ∃ (u4a : Int) (u35 : GTerm), st = ⟨[tP 2 2, tI 4 z7.2, tP 5 5, tI 6 u4a], [(2, .cells GTerm.z [(3, .app 41)]), (5, .cells (GTerm.q u35) [(3, .app 41)]), bC 1000000 (GL01Cur.q uh.1)], []⟩ ∧ pspec_l03Any_L1 k z7 m u4a u35 = some out1) ?_ k ⟨_, _, rfl, h284⟩
            rintro m st ⟨u4a, u35, rfl, h284⟩
            cases m with
            | zero => exact (onone h284).elim
            | succ m =>
              apply Wc.seq
              apply Wc.seq
              obtain ⟨h285, h284⟩ := oguard h284
              refine Wc.r2 [] ⟨[tP 2 2, tI 4 z7.2, tP 5 5, tI 6 u4a, tB 41 (decide (u4a < (wr.i64 (38 + (Int.tmod z7.2 4)))))], [(2, .cells GTerm.z [(3, .app 41)]), (5, .cells (GTerm.q u35) [(3, .app 41)]), bC 1000000 (GL01Cur.q uh.1)], []⟩ (.cons h285 .nil) ?_
              rcases oif h284 with ⟨h286, h284⟩ | ⟨h286, h284⟩
              · refine Wc.cT h286 ?_
                refine Wc.fx [] ⟨[tP 2 2, tI 4 z7.2, tP 5 5, tI 6 u4a], [(2, .cells GTerm.z [(3, .app 41)]), (5, .cells (GTerm.q u35) [(3, .app 41)]), bC 1000000 (GL01Cur.q uh.1)], []⟩ ?_
                refine Wc.skip ?_
                apply Wc.seq
                refine Wc.block ?_
                refine Wc.r2 [{}, { c := some (List.map GTerm.c [u35]) }, { tk := [45] }, { tk := [46] }] ⟨[tP 2 2, tI 4 z7.2, tP 5 5, tI 6 u4a], [(2, .cells GTerm.z [(3, .app 41)]), (5, .cells [aI 4, .str (bs [115]), aI 0, .sl (List.map GTerm.c [u35])] [(3, .app 41)]), bC 1000000 (GL01Cur.q uh.1)], []⟩ (.cons (cl_cons (c := GTerm.c) (x := u35) (GTerm.c_eq u35) (cl_nil GTerm.c)) .nil) ?_
                refine Wc.r0 ⟨[tP 2 2, tI 4 z7.2, tP 5 5, tI 6 (wr.i64 (u4a + 1))], [(2, .cells GTerm.z [(3, .app 41)]), (5, .cells [aI 4, .str (bs [115]), aI 0, .sl (List.map GTerm.c [u35])] [(3, .app 41)]), bC 1000000 (GL01Cur.q uh.1)], []⟩ ?_
                exact ⟨_, Nat.lt_succ_self _, _, _, rfl, h284⟩
              · refine Wc.cF h286 ?_
                refine Wc.fx [] ⟨[tP 2 2, tP 5 5], [(2, .cells GTerm.z [(3, .app 41)]), (5, .cells (GTerm.q u35) [(3, .app 41)]), bC 1000000 (GL01Cur.q uh.1)], []⟩ ?_
                refine Wc.exit ?_
                obtain rfl := Option.some.inj h284
                exact ⟨_, rfl, rfl⟩
          · rintro st ⟨u7w, rfl, rfl⟩
            apply Wc.seq
            refine Wc.r1 [{ md := 1 }, { tk := [47] }] ⟨[tP 2 2], [(2, .cells (GTerm.q u7w) [(3, .app 41)]), bC 1000000 (GL01Cur.q uh.1)], []⟩ ?_
            obtain rfl := Option.some.inj h; exact Wc.ret dn
        · refine Wc.cF h283 ?_
          refine Wc.fx [] ⟨[tP 2 2, tP 5 5], [(2, .cells GTerm.z [(3, .app 41)]), (5, .cells (GTerm.q uh.2) [(3, .app 41)]), bC 1000000 (GL01Cur.q uh.1)], []⟩ ?_
          refine Wc.skip ?_
          apply Wc.seq
          refine Wc.r1 [{ md := 1 }, { tk := [47] }] ⟨[tP 2 2], [(2, .cells (GTerm.q uh.2) [(3, .app 41)]), bC 1000000 (GL01Cur.q uh.1)], []⟩ ?_
          obtain rfl := Option.some.inj h; exact Wc.ret dn

def pspec_l01Once (k : Nat) (u9w : GL01Cur) (u9x : Int) : Option (GL01Cur × Bool) :=
  (pspec_l01Below k u9w u9x).bind fun u6f =>
  some (u6f.1, (u6f.2 == 0))
theorem cspec_l01Once {k : Nat} {u9w : GL01Cur} {u9x : Int} {r : GL01Cur × Bool} (h : pspec_l01Once k u9w u9x = some r) : FnO Try.prog 100 [.p (GL01Cur.q u9w) [], .v (aI u9x) []] (.v (.bool r.2) []) [(0, .p (GL01Cur.q r.1) [])] := by
  refine FnO.o2 Try.func100 (rfl : Try.f100.body = some _) ?_
  intro w0 X0 Fin pv0 pb
  unfold pspec_l01Once at h
  apply Wc.seq
  refine Wc.r0 ⟨[tP 0 1000000, tI 1 u9x], [bC 1000000 (GL01Cur.q u9w)], []⟩ ?_
  apply Wc.seq
  obtain ⟨u6f, h287, h⟩ := obind h
  refine Wc.r2 [{}, {}, { r := some (.v (aI u6f.2) []), outs := [(0, .p (GL01Cur.q u6f.1) [])] }] ⟨[tB 4 (u6f.2 == 0)], [bC 1000000 (GL01Cur.q u6f.1)], []⟩ (.cons (cspec_l01Below h287) .nil) ?_
  obtain rfl := Option.some.inj h; exact Wc.ret dn

def pspec_l05Blank (k : Nat) (u5x : Int) : Option Bool :=
  if (u5x == 32) = true then
    some true
  else
    if (u5x == 9) = true then
      some true
    else
      some (u5x == 10)
theorem cspec_l05Blank {k : Nat} {u5x : Int} {r : Bool} (h : pspec_l05Blank k u5x = some r) : FnO Try.prog 161 [.v (.int .u8 u5x) []] (.v (.bool r) []) [] := by
  refine FnO.o2 Try.func161 (rfl : Try.f161.body = some _) ?_
  intro w0 X0 Fin pv0 pb
  unfold pspec_l05Blank at h
  apply Wc.seq
  refine Wc.r0 ⟨[tV 0 (.int .u8 u5x)], [], []⟩ ?_
  apply Wc.seq
  rcases oif h with ⟨h288, h⟩ | ⟨h288, h⟩
  · refine Wc.r2 [{}, {}, { re := some (.bool true) }] ⟨[tB 2 true], [], []⟩ (.cons (congrArg AV.bool h288) .nil) ?_
    obtain rfl := Option.some.inj h; exact Wc.ret dn
  · rcases oif h with ⟨h289, h⟩ | ⟨h289, h⟩
    · refine Wc.r2 [{}, {}, { re := some (.bool false) }, {}, {}, {}, { re := some (.bool true) }] ⟨[tB 2 true], [], []⟩ (.cons (congrArg AV.bool h288) (.cons (congrArg AV.bool h289) .nil)) ?_
      obtain rfl := Option.some.inj h; exact Wc.ret dn
    · refine Wc.r2 [{}, {}, { re := some (.bool false) }, {}, {}, {}, { re := some (.bool false) }] ⟨[tB 2 (u5x == 10)], [], []⟩ (.cons (congrArg AV.bool h288) (.cons (congrArg AV.bool h289) .nil)) ?_
      obtain rfl := Option.some.inj h; exact Wc.ret dn

def pspec_l05Small (k : Nat) (u6g : Int) : Option Bool :=
  if (decide (u6g ≥ 97)) = true then
    some (decide (u6g ≤ 122))
  else
    some false
theorem cspec_l05Small {k : Nat} {u6g : Int} {r : Bool} (h : pspec_l05Small k u6g = some r) : FnO Try.prog 127 [.v (.int .u8 u6g) []] (.v (.bool r) []) [] := by
  refine FnO.o2 Try.func127 (rfl : Try.f127.body = some _) ?_
  intro w0 X0 Fin pv0 pb
  unfold pspec_l05Small at h
  apply Wc.seq
  refine Wc.r0 ⟨[tV 0 (.int .u8 u6g)], [], []⟩ ?_
  apply Wc.seq
  rcases oif h with ⟨h290, h⟩ | ⟨h290, h⟩
  · refine Wc.r2 [{}, {}, { re := some (.bool true) }] ⟨[tB 2 (decide (u6g ≤ 122))], [], []⟩ (.cons (congrArg AV.bool h290) .nil) ?_
    obtain rfl := Option.some.inj h; exact Wc.ret dn
  · refine Wc.r2 [{}, {}, { re := some (.bool false) }] ⟨[tB 2 false], [], []⟩ (.cons (congrArg AV.bool h290) .nil) ?_
    obtain rfl := Option.some.inj h; exact Wc.ret dn

def pspec_l05Great (k : Nat) (u4s : Int) : Option Bool :=
  if (decide (u4s ≥ 65)) = true then
    if (decide (u4s ≤ 90)) = true then
      some true
    else
      some (u4s == 95)
  else
    some (u4s == 95)
theorem cspec_l05Great {k : Nat} {u4s : Int} {r : Bool} (h : pspec_l05Great k u4s = some r) : FnO Try.prog 173 [.v (.int .u8 u4s) []] (.v (.bool r) []) [] := by
  refine FnO.o2 Try.func173 (rfl : Try.f173.body = some _) ?_
  intro w0 X0 Fin pv0 pb
  unfold pspec_l05Great at h
  apply Wc.seq
  refine Wc.r0 ⟨[tV 0 (.int .u8 u4s)], [], []⟩ ?_
  apply Wc.seq
  rcases oif h with ⟨h291, h⟩ | ⟨h291, h⟩
  · rcases oif h with ⟨h292, h⟩ | ⟨h292, h⟩
    · refine Wc.r2 [{}, {}, { re := some (.bool true) }, {}, {}, {}, { re := some (.bool true) }] ⟨[tB 2 true], [], []⟩ (.cons (congrArg AV.bool h291) (.cons (congrArg AV.bool h292) .nil)) ?_
      obtain rfl := Option.some.inj h; exact Wc.ret dn
    · refine Wc.r2 [{}, {}, { re := some (.bool true) }, {}, {}, {}, { re := some (.bool false) }] ⟨[tB 2 (u4s == 95)], [], []⟩ (.cons (congrArg AV.bool h291) (.cons (congrArg AV.bool h292) .nil)) ?_
      obtain rfl := Option.some.inj h; exact Wc.ret dn
  · refine Wc.r2 [{}, {}, { re := some (.bool false) }] ⟨[tB 2 (u4s == 95)], [], []⟩ (.cons (congrArg AV.bool h291) .nil) ?_
    obtain rfl := Option.some.inj h; exact Wc.ret dn

def pspec_l05Figure (k : Nat) (u6h : Int) : Option Bool :=
  if (decide (u6h ≥ 48)) = true then
    some (decide (u6h ≤ 57))
  else
    some false
theorem cspec_l05Figure {k : Nat} {u6h : Int} {r : Bool} (h : pspec_l05Figure k u6h = some r) : FnO Try.prog 175 [.v (.int .u8 u6h) []] (.v (.bool r) []) [] := by
  refine FnO.o2 Try.func175 (rfl : Try.f175.body = some _) ?_
  intro w0 X0 Fin pv0 pb
  unfold pspec_l05Figure at h
  apply Wc.seq
  refine Wc.r0 ⟨[tV 0 (.int .u8 u6h)], [], []⟩ ?_
  apply Wc.seq
  rcases oif h with ⟨h293, h⟩ | ⟨h293, h⟩
  · refine Wc.r2 [{}, {}, { re := some (.bool true) }] ⟨[tB 2 (decide (u6h ≤ 57))], [], []⟩ (.cons (congrArg AV.bool h293) .nil) ?_
    obtain rfl := Option.some.inj h; exact Wc.ret dn
  · refine Wc.r2 [{}, {}, { re := some (.bool false) }] ⟨[tB 2 false], [], []⟩ (.cons (congrArg AV.bool h293) .nil) ?_
    obtain rfl := Option.some.inj h; exact Wc.ret dn

def pspec_l05Word (k : Nat) (u6i : Int) : Option Bool :=
  (pspec_l05Small k u6i).bind fun u9y =>
  if u9y = true then
    some true
  else
    (pspec_l05Great k u6i).bind fun ucf =>
    if ucf = true then
      some true
    else
      (pspec_l05Figure k u6i).bind fun ucg =>
      some ucg
theorem cspec_l05Word {k : Nat} {u6i : Int} {r : Bool} (h : pspec_l05Word k u6i = some r) : FnO Try.prog 186 [.v (.int .u8 u6i) []] (.v (.bool r) []) [] := by
  refine FnO.o2 Try.func186 (rfl : Try.f186.body = some _) ?_
  intro w0 X0 Fin pv0 pb
  unfold pspec_l05Word at h
  apply Wc.seq
  refine Wc.r0 ⟨[tV 0 (.int .u8 u6i)], [], []⟩ ?_
  apply Wc.seq
  obtain ⟨u9y, h294, h⟩ := obind h
  rcases oif h with ⟨h295, h⟩ | ⟨h295, h⟩
  · refine Wc.r2 [{}, { r := some (.v (.bool u9y) []) }, { re := some (.bool true) }] ⟨[tB 2 true], [], []⟩ (.cons (cspec_l05Small h294) (.cons (congrArg AV.bool h295) .nil)) ?_
    obtain rfl := Option.some.inj h; exact Wc.ret dn
  · obtain ⟨ucf, h296, h⟩ := obind h
    rcases oif h with ⟨h297, h⟩ | ⟨h297, h⟩
    · refine Wc.r2 [{}, { r := some (.v (.bool u9y) []) }, { re := some (.bool false) }, {}, { r := some (.v (.bool ucf) []) }, {}, { re := some (.bool true) }] ⟨[tB 2 true], [], []⟩ (.cons (cspec_l05Small h294) (.cons (congrArg AV.bool h295) (.cons (cspec_l05Great h296) (.cons (congrArg AV.bool h297) .nil)))) ?_
      obtain rfl := Option.some.inj h; exact Wc.ret dn
    · obtain ⟨ucg, h298, h⟩ := obind h
      refine Wc.r2 [{}, { r := some (.v (.bool u9y) []) }, { re := some (.bool false) }, {}, { r := some (.v (.bool ucf) []) }, {}, { re := some (.bool false) }, {}, { r := some (.v (.bool ucg) []) }] ⟨[tB 2 ucg], [], []⟩ (.cons (cspec_l05Small h294) (.cons (congrArg AV.bool h295) (.cons (cspec_l05Great h296) (.cons (congrArg AV.bool h297) (.cons (cspec_l05Figure h298) .nil))))) ?_
      obtain rfl := Option.some.inj h; exact Wc.ret dn

def pspec_l05Run_L1 (k : Nat) (u2d : ByteArray) : Nat → Int → Option (Out Int Int)
  | 0, _ => none
  | m + 1, u1z =>
    if (decide (u1z < (u2d.size : Int))) = true then
      if 0 ≤ u1z ∧ (u1z).toNat < u2d.size then
        (pspec_l05Word k (bt u2d u1z)).bind fun uch =>
        if uch = true then
          pspec_l05Run_L1 k u2d m (wr.i64 (u1z + 1))
        else
          some (.done u1z)
      else none
    else
      some (.done u1z)
def pspec_l05Run (k : Nat) (u2d : ByteArray) (u9z : Int) : Option Int :=
  (pspec_l05Run_L1 k u2d k u9z).bind fun out1 => match out1 with
  | .ret r => some r
  | .done u7x =>
    some u7x
theorem cspec_l05Run {k : Nat} {u2d : ByteArray} {u9z : Int} {r : Int} (h : pspec_l05Run k u2d u9z = some r) : FnO Try.prog 174 [.v (.str u2d) [], .v (aI u9z) []] (.v (aI r) []) [] := by
  refine FnO.o2 Try.func174 (rfl : Try.f174.body = some _) ?_
  intro w0 X0 Fin pv0 pb
  unfold pspec_l05Run at h
  apply Wc.seq
  refine Wc.r0 ⟨[tS 0 u2d, tI 1 u9z], [], []⟩ ?_
  obtain ⟨out1, h299, h⟩ := obind h
  refine Wc.seqJ (fun st => ∃ (u7x : Int), out1 = .done u7x ∧ st = ⟨[tI 1 u7x], [], []⟩) ?_ ?_
  · refine Wc.block ?_
    refine Wc.loop (fun m st => ∃ (u1z : Int), st = ⟨[tS 0 u2d, tI 1 u1z], [], []⟩ ∧ pspec_l05Run_L1 k u2d m u1z = some out1) ?_ k ⟨_, rfl, h299⟩
    rintro m st ⟨u1z, rfl, h299⟩
    cases m with
    | zero => exact (onone h299).elim
    | succ m =>
      apply Wc.seq
      apply Wc.seq
      rcases oif h299 with ⟨h300, h299⟩ | ⟨h300, h299⟩
      · obtain ⟨h301, h299⟩ := oguard h299
        obtain ⟨uch, h302, h299⟩ := obind h299
        refine Wc.r2 [{}, {}, {}, {}, { re := some (.bool true) }, {}, {}, {}, { r := some (.v (.bool uch) []) }] ⟨[tS 0 u2d, tI 1 u1z, tB 14 uch], [], []⟩ (.cons (congrArg AV.bool h300) (.cons h301 (.cons (cspec_l05Word h302) .nil))) ?_
        rcases oif h299 with ⟨h303, h299⟩ | ⟨h303, h299⟩
        · refine Wc.cT h303 ?_
          refine Wc.fx [] ⟨[tS 0 u2d, tI 1 u1z], [], []⟩ ?_
          refine Wc.skip ?_
          refine Wc.block ?_
          refine Wc.r0 ⟨[tS 0 u2d, tI 1 (wr.i64 (u1z + 1))], [], []⟩ ?_
          exact ⟨_, Nat.lt_succ_self _, _, rfl, h299⟩
        · refine Wc.cF h303 ?_
          refine Wc.fx [] ⟨[tI 1 u1z], [], []⟩ ?_
          refine Wc.exit ?_
          obtain rfl := Option.some.inj h299
          exact ⟨_, rfl, rfl⟩
      · refine Wc.r2 [{}, {}, {}, {}, { re := some (.bool false) }] ⟨[tS 0 u2d, tI 1 u1z, tB 14 false], [], []⟩ (.cons (congrArg AV.bool h300) .nil) ?_
        refine Wc.cF rfl ?_
        refine Wc.fx [] ⟨[tI 1 u1z], [], []⟩ ?_
        refine Wc.exit ?_
        obtain rfl := Option.some.inj h299
        exact ⟨_, rfl, rfl⟩
  · rintro st ⟨u7x, rfl, rfl⟩
    apply Wc.seq
    refine Wc.r0 ⟨[tI 4 u7x], [], []⟩ ?_
    obtain rfl := Option.some.inj h; exact Wc.ret dn

def pspec_l05Quoted_L1 (k : Nat) (u0g : ByteArray) (u16 : Int) : Nat → Int → Option (Out Int Unit)
  | 0, _ => none
  | m + 1, u0h =>
    if (decide (u0h < (u0g.size : Int))) = true then
      if 0 ≤ u0h ∧ (u0h).toNat < u0g.size then
        if ((bt u0g u0h) == 39) = true then
          if 0 ≤ (wr.i64 (u16 + 1)) ∧ (wr.i64 (u16 + 1)) ≤ u0h ∧ u0h ≤ (u0g.size : Int) then
            (pspec_l03Name k (u0g.extract ((wr.i64 (u16 + 1)) : Int).toNat (u0h : Int).toNat)).bind fun uci =>
            if uci = true then
              some (.ret (wr.i64 (u0h + 1)))
            else
              some (.ret 0)
          else none
        else
          pspec_l05Quoted_L1 k u0g u16 m (wr.i64 (u0h + 1))
      else none
    else
      some (.done ())
def pspec_l05Quoted (k : Nat) (u0g : ByteArray) (u16 : Int) : Option Int :=
  (pspec_l05Quoted_L1 k u0g u16 k (wr.i64 (u16 + 1))).bind fun out1 => match out1 with
  | .ret r => some r
  | .done () =>
    some 0
theorem cspec_l05Quoted {k : Nat} {u0g : ByteArray} {u16 : Int} {r : Int} (h : pspec_l05Quoted k u0g u16 = some r) : FnO Try.prog 176 [.v (.str u0g) [], .v (aI u16) []] (.v (aI r) []) [] := by
  refine FnO.o2 Try.func176 (rfl : Try.f176.body = some _) ?_
  intro w0 X0 Fin pv0 pb
  unfold pspec_l05Quoted at h
  apply Wc.seq
  refine Wc.r0 ⟨[tS 0 u0g, tI 1 u16], [], []⟩ ?_
  apply Wc.seq
  apply Wc.seq
  refine Wc.r0 ⟨[tS 0 u0g, tI 1 u16, tI 5 (wr.i64 (u16 + 1))], [], []⟩ ?_
  obtain ⟨out1, h304, h⟩ := obind h
  refine Wc.lastJ (fun st => out1 = .done () ∧ st = ⟨[], [], []⟩) ?_ ?_
  · refine Wc.block ?_
    refine Wc.loop (fun m st => ∃ (u0h : Int), st = ⟨[tS 0 u0g, tI 1 u16, tI 5 u0h], [], []⟩ ∧ pspec_l05Quoted_L1 k u0g u16 m u0h = some out1) ?_ k ⟨_, rfl, h304⟩
    rintro m st ⟨u0h, rfl, h304⟩
    cases m with
    | zero => exact (onone h304).elim
    | succ m =>
      apply Wc.seq
      apply Wc.seq
      refine Wc.r0 ⟨[tS 0 u0g, tI 1 u16, tI 5 u0h, tB 11 (decide (u0h < (u0g.size : Int)))], [], []⟩ ?_
      rcases oif h304 with ⟨h305, h304⟩ | ⟨h305, h304⟩
      · refine Wc.cT h305 ?_
        refine Wc.fx [] ⟨[tS 0 u0g, tI 1 u16, tI 5 u0h], [], []⟩ ?_
        refine Wc.skip ?_
        apply Wc.seq
        refine Wc.block ?_
        apply Wc.seq
        obtain ⟨h306, h304⟩ := oguard h304
        refine Wc.r2 [] ⟨[tS 0 u0g, tI 1 u16, tI 5 u0h, tB 17 ((bt u0g u0h) == 39)], [], []⟩ (.cons h306 .nil) ?_
        rcases oif h304 with ⟨h307, h304⟩ | ⟨h307, h304⟩
        · refine Wc.cT h307 ?_
          apply Wc.seq
          apply Wc.seq
          obtain ⟨h308, h304⟩ := oguard h304
          obtain ⟨uci, h309, h304⟩ := obind h304
          refine Wc.r2 [{}, {}, {}, {}, {}, { r := some (.v (.bool uci) []) }] ⟨[tI 5 u0h, tB 23 uci], [], []⟩ (.cons h308 (.cons (cspec_l03Name h309) .nil)) ?_
          rcases oif h304 with ⟨h310, h304⟩ | ⟨h310, h304⟩
          · refine Wc.cT h310 ?_
            apply Wc.seq
            refine Wc.r0 ⟨[tI 4 (wr.i64 (u0h + 1))], [], []⟩ ?_
            refine Wc.ret ?_
            obtain rfl := Option.some.inj h304
            obtain rfl := Option.some.inj h
            exact ⟨.inl rfl, by kernel_rfl, by kernel_rfl⟩
          · refine Wc.cF h310 ?_
            refine Wc.fx [] ⟨[], [], []⟩ ?_
            refine Wc.skip ?_
            apply Wc.seq
            refine Wc.r0 ⟨[tI 4 0], [], []⟩ ?_
            refine Wc.ret ?_
            obtain rfl := Option.some.inj h304
            obtain rfl := Option.some.inj h
            exact ⟨.inl rfl, by kernel_rfl, by kernel_rfl⟩
        · refine Wc.cF h307 ?_
          refine Wc.fx [] ⟨[tS 0 u0g, tI 1 u16, tI 5 u0h], [], []⟩ ?_
          refine Wc.skip ?_
          refine Wc.r0 ⟨[tS 0 u0g, tI 1 u16, tI 5 (wr.i64 (u0h + 1))], [], []⟩ ?_
          exact ⟨_, Nat.lt_succ_self _, _, rfl, h304⟩
      · refine Wc.cF h305 ?_
        refine Wc.fx [] ⟨[], [], []⟩ ?_
        refine Wc.exit ?_
        obtain rfl := Option.some.inj h304
        exact ⟨rfl, rfl⟩
  · rintro st ⟨rfl, rfl⟩
    apply Wc.seq
    refine Wc.r0 ⟨[tI 4 0], [], []⟩ ?_
    obtain rfl := Option.some.inj h; exact Wc.ret dn

def pspec_SymbolByte_L1 (k : Nat) (u1p : Int) : Nat → Int → Option (Out Bool Unit)
  | 0, _ => none
  | m + 1, u2e =>
    if (decide (u2e < ((bs [43, 45, 42, 47, 92, 94, 60, 62, 61, 126, 58, 46, 63, 64, 35, 38, 36]).size : Int))) = true then
      if 0 ≤ u2e ∧ (u2e).toNat < (bs [43, 45, 42, 47, 92, 94, 60, 62, 61, 126, 58, 46, 63, 64, 35, 38, 36]).size then
        if ((bt (bs [43, 45, 42, 47, 92, 94, 60, 62, 61, 126, 58, 46, 63, 64, 35, 38, 36]) u2e) == u1p) = true then
          some (.ret true)
        else
          pspec_SymbolByte_L1 k u1p m (wr.i64 (u2e + 1))
      else none
    else
      some (.done ())
def pspec_SymbolByte (k : Nat) (u1p : Int) : Option Bool :=
  (pspec_SymbolByte_L1 k u1p k 0).bind fun out1 => match out1 with
  | .ret r => some r
  | .done () =>
    some false
theorem cspec_SymbolByte {k : Nat} {u1p : Int} {r : Bool} (h : pspec_SymbolByte k u1p = some r) : FnO Try.prog 178 [.v (.int .u8 u1p) []] (.v (.bool r) []) [] := by
  refine FnO.o2 Try.func178 (rfl : Try.f178.body = some _) ?_
  intro w0 X0 Fin pv0 pb
  unfold pspec_SymbolByte at h
  apply Wc.seq
  refine Wc.r0 ⟨[tV 0 (.int .u8 u1p)], [], []⟩ ?_
  apply Wc.seq
  refine Wc.r0 ⟨[tV 0 (.int .u8 u1p), tS 3 (bs [43, 45, 42, 47, 92, 94, 60, 62, 61, 126, 58, 46, 63, 64, 35, 38, 36])], [], []⟩ ?_
  apply Wc.seq
  apply Wc.seq
  refine Wc.r0 ⟨[tV 0 (.int .u8 u1p), tS 3 (bs [43, 45, 42, 47, 92, 94, 60, 62, 61, 126, 58, 46, 63, 64, 35, 38, 36]), tI 4 0], [], []⟩ ?_
  obtain ⟨out1, h311, h⟩ := obind h
  refine Wc.lastJ (fun st => out1 = .done () ∧ st = ⟨[], [], []⟩) ?_ ?_
  · refine Wc.block ?_
    refine Wc.loop (fun m st => ∃ (u2e : Int), st = ⟨[tV 0 (.int .u8 u1p), tS 3 (bs [43, 45, 42, 47, 92, 94, 60, 62, 61, 126, 58, 46, 63, 64, 35, 38, 36]), tI 4 u2e], [], []⟩ ∧ pspec_SymbolByte_L1 k u1p m u2e = some out1) ?_ k ⟨_, rfl, h311⟩
    rintro m st ⟨u2e, rfl, h311⟩
    cases m with
    | zero => exact (onone h311).elim
    | succ m =>
      apply Wc.seq
      apply Wc.seq
      refine Wc.r0 ⟨[tV 0 (.int .u8 u1p), tS 3 (bs [43, 45, 42, 47, 92, 94, 60, 62, 61, 126, 58, 46, 63, 64, 35, 38, 36]), tI 4 u2e, tB 8 (decide (u2e < ((bs [43, 45, 42, 47, 92, 94, 60, 62, 61, 126, 58, 46, 63, 64, 35, 38, 36]).size : Int)))], [], []⟩ ?_
      rcases oif h311 with ⟨h312, h311⟩ | ⟨h312, h311⟩
      · refine Wc.cT h312 ?_
        refine Wc.fx [] ⟨[tV 0 (.int .u8 u1p), tS 3 (bs [43, 45, 42, 47, 92, 94, 60, 62, 61, 126, 58, 46, 63, 64, 35, 38, 36]), tI 4 u2e], [], []⟩ ?_
        refine Wc.skip ?_
        apply Wc.seq
        refine Wc.block ?_
        apply Wc.seq
        obtain ⟨h313, h311⟩ := oguard h311
        refine Wc.r2 [] ⟨[tV 0 (.int .u8 u1p), tS 3 (bs [43, 45, 42, 47, 92, 94, 60, 62, 61, 126, 58, 46, 63, 64, 35, 38, 36]), tI 4 u2e, tB 15 ((bt (bs [43, 45, 42, 47, 92, 94, 60, 62, 61, 126, 58, 46, 63, 64, 35, 38, 36]) u2e) == u1p)], [], []⟩ (.cons h313 .nil) ?_
        rcases oif h311 with ⟨h314, h311⟩ | ⟨h314, h311⟩
        · refine Wc.cT h314 ?_
          apply Wc.seq
          refine Wc.r0 ⟨[tB 2 true], [], []⟩ ?_
          refine Wc.ret ?_
          obtain rfl := Option.some.inj h311
          obtain rfl := Option.some.inj h
          exact ⟨.inl rfl, by kernel_rfl, by kernel_rfl⟩
        · refine Wc.cF h314 ?_
          refine Wc.fx [] ⟨[tV 0 (.int .u8 u1p), tS 3 (bs [43, 45, 42, 47, 92, 94, 60, 62, 61, 126, 58, 46, 63, 64, 35, 38, 36]), tI 4 u2e], [], []⟩ ?_
          refine Wc.skip ?_
          refine Wc.r0 ⟨[tV 0 (.int .u8 u1p), tS 3 (bs [43, 45, 42, 47, 92, 94, 60, 62, 61, 126, 58, 46, 63, 64, 35, 38, 36]), tI 4 (wr.i64 (u2e + 1))], [], []⟩ ?_
          exact ⟨_, Nat.lt_succ_self _, _, rfl, h311⟩
      · refine Wc.cF h312 ?_
        refine Wc.fx [] ⟨[], [], []⟩ ?_
        refine Wc.exit ?_
        obtain rfl := Option.some.inj h311
        exact ⟨rfl, rfl⟩
  · rintro st ⟨rfl, rfl⟩
    apply Wc.seq
    refine Wc.r0 ⟨[tB 2 false], [], []⟩ ?_
    obtain rfl := Option.some.inj h; exact Wc.ret dn

def pspec_l05End (k : Nat) (u17 : ByteArray) (ze : Int) : Option Bool :=
  if 0 ≤ ze ∧ (ze).toNat < u17.size then
    if ((bt u17 ze) == 46) = true then
      if (ze == 0) = true then
        if ((wr.i64 (ze + 1)) == (u17.size : Int)) = true then
          some true
        else
          if 0 ≤ wr.i64 (ze + 1) ∧ (wr.i64 (ze + 1)).toNat < u17.size then
            (pspec_l05Blank k (bt u17 (wr.i64 (ze + 1)))).bind fun u4b =>
            if u4b = true then
              some true
            else
              if 0 ≤ wr.i64 (ze + 1) ∧ (wr.i64 (ze + 1)).toNat < u17.size then
                some ((bt u17 (wr.i64 (ze + 1))) == 37)
              else none
          else none
      else
        if 0 ≤ wr.i64 (ze - 1) ∧ (wr.i64 (ze - 1)).toNat < u17.size then
          (pspec_SymbolByte k (bt u17 (wr.i64 (ze - 1)))).bind fun u4b =>
          if (!u4b) = true then
            if ((wr.i64 (ze + 1)) == (u17.size : Int)) = true then
              some true
            else
              if 0 ≤ wr.i64 (ze + 1) ∧ (wr.i64 (ze + 1)).toNat < u17.size then
                (pspec_l05Blank k (bt u17 (wr.i64 (ze + 1)))).bind fun ucj =>
                if ucj = true then
                  some true
                else
                  if 0 ≤ wr.i64 (ze + 1) ∧ (wr.i64 (ze + 1)).toNat < u17.size then
                    some ((bt u17 (wr.i64 (ze + 1))) == 37)
                  else none
              else none
          else
            some false
        else none
    else
      some false
  else none
theorem cspec_l05End {k : Nat} {u17 : ByteArray} {ze : Int} {r : Bool} (h : pspec_l05End k u17 ze = some r) : FnO Try.prog 177 [.v (.str u17) [], .v (aI ze) []] (.v (.bool r) []) [] := by
  refine FnO.o2 Try.func177 (rfl : Try.f177.body = some _) ?_
  intro w0 X0 Fin pv0 pb
  unfold pspec_l05End at h
  apply Wc.seq
  refine Wc.r0 ⟨[tS 0 u17, tI 1 ze], [], []⟩ ?_
  apply Wc.seq
  obtain ⟨h315, h⟩ := oguard h
  rcases oif h with ⟨h316, h⟩ | ⟨h316, h⟩
  · rcases oif h with ⟨h317, h⟩ | ⟨h317, h⟩
    · rcases oif h with ⟨h318, h⟩ | ⟨h318, h⟩
      · refine Wc.r2 [{}, {}, {}, {}, { re := some (.bool true) }, {}, {}, { re := some (.bool true) }, {}, {}, {}, {}, {}, {}, {}, {}, {}, {}, {}, {}, {}, {}, { re := some (.bool true) }] ⟨[tB 4 true], [], []⟩ (.cons h315 (.cons (congrArg AV.bool h316) (.cons (congrArg AV.bool h317) (.cons (congrArg AV.bool h318) .nil)))) ?_
        obtain rfl := Option.some.inj h; exact Wc.ret dn
      · obtain ⟨h319, h⟩ := oguard h
        obtain ⟨u4b, h320, h⟩ := obind h
        rcases oif h with ⟨h321, h⟩ | ⟨h321, h⟩
        · refine Wc.r2 [{}, {}, {}, {}, { re := some (.bool true) }, {}, {}, { re := some (.bool true) }, {}, {}, {}, {}, {}, {}, {}, {}, {}, {}, {}, {}, {}, {}, { re := some (.bool false) }, {}, {}, {}, {}, { r := some (.v (.bool u4b) []) }, {}, { re := some (.bool true) }] ⟨[tB 4 true], [], []⟩ (.cons h315 (.cons (congrArg AV.bool h316) (.cons (congrArg AV.bool h317) (.cons (congrArg AV.bool h318) (.cons h319 (.cons (cspec_l05Blank h320) (.cons (congrArg AV.bool h321) .nil))))))) ?_
          obtain rfl := Option.some.inj h; exact Wc.ret dn
        · obtain ⟨h322, h⟩ := oguard h
          refine Wc.r2 [{}, {}, {}, {}, { re := some (.bool true) }, {}, {}, { re := some (.bool true) }, {}, {}, {}, {}, {}, {}, {}, {}, {}, {}, {}, {}, {}, {}, { re := some (.bool false) }, {}, {}, {}, {}, { r := some (.v (.bool u4b) []) }, {}, { re := some (.bool false) }] ⟨[tB 4 ((bt u17 (wr.i64 (ze + 1))) == 37)], [], []⟩ (.cons h315 (.cons (congrArg AV.bool h316) (.cons (congrArg AV.bool h317) (.cons (congrArg AV.bool h318) (.cons h319 (.cons (cspec_l05Blank h320) (.cons (congrArg AV.bool h321) (.cons h322 .nil)))))))) ?_
          obtain rfl := Option.some.inj h; exact Wc.ret dn
    · obtain ⟨h318, h⟩ := oguard h
      obtain ⟨u4b, h319, h⟩ := obind h
      rcases oif h with ⟨h320, h⟩ | ⟨h320, h⟩
      · rcases oif h with ⟨h321, h⟩ | ⟨h321, h⟩
        · refine Wc.r2 [{}, {}, {}, {}, { re := some (.bool true) }, {}, {}, { re := some (.bool false) }, {}, {}, {}, {}, { r := some (.v (.bool u4b) []) }, {}, {}, {}, { re := some (.bool true) }, {}, {}, {}, {}, {}, { re := some (.bool true) }] ⟨[tB 4 true], [], []⟩ (.cons h315 (.cons (congrArg AV.bool h316) (.cons (congrArg AV.bool h317) (.cons h318 (.cons (cspec_SymbolByte h319) (.cons (congrArg AV.bool h320) (.cons (congrArg AV.bool h321) .nil))))))) ?_
          obtain rfl := Option.some.inj h; exact Wc.ret dn
        · obtain ⟨h322, h⟩ := oguard h
          obtain ⟨ucj, h323, h⟩ := obind h
          rcases oif h with ⟨h324, h⟩ | ⟨h324, h⟩
          · refine Wc.r2 [{}, {}, {}, {}, { re := some (.bool true) }, {}, {}, { re := some (.bool false) }, {}, {}, {}, {}, { r := some (.v (.bool u4b) []) }, {}, {}, {}, { re := some (.bool true) }, {}, {}, {}, {}, {}, { re := some (.bool false) }, {}, {}, {}, {}, { r := some (.v (.bool ucj) []) }, {}, { re := some (.bool true) }] ⟨[tB 4 true], [], []⟩ (.cons h315 (.cons (congrArg AV.bool h316) (.cons (congrArg AV.bool h317) (.cons h318 (.cons (cspec_SymbolByte h319) (.cons (congrArg AV.bool h320) (.cons (congrArg AV.bool h321) (.cons h322 (.cons (cspec_l05Blank h323) (.cons (congrArg AV.bool h324) .nil)))))))))) ?_
            obtain rfl := Option.some.inj h; exact Wc.ret dn
          · obtain ⟨h325, h⟩ := oguard h
            refine Wc.r2 [{}, {}, {}, {}, { re := some (.bool true) }, {}, {}, { re := some (.bool false) }, {}, {}, {}, {}, { r := some (.v (.bool u4b) []) }, {}, {}, {}, { re := some (.bool true) }, {}, {}, {}, {}, {}, { re := some (.bool false) }, {}, {}, {}, {}, { r := some (.v (.bool ucj) []) }, {}, { re := some (.bool false) }] ⟨[tB 4 ((bt u17 (wr.i64 (ze + 1))) == 37)], [], []⟩ (.cons h315 (.cons (congrArg AV.bool h316) (.cons (congrArg AV.bool h317) (.cons h318 (.cons (cspec_SymbolByte h319) (.cons (congrArg AV.bool h320) (.cons (congrArg AV.bool h321) (.cons h322 (.cons (cspec_l05Blank h323) (.cons (congrArg AV.bool h324) (.cons h325 .nil))))))))))) ?_
            obtain rfl := Option.some.inj h; exact Wc.ret dn
      · refine Wc.r2 [{}, {}, {}, {}, { re := some (.bool true) }, {}, {}, { re := some (.bool false) }, {}, {}, {}, {}, { r := some (.v (.bool u4b) []) }, {}, {}, {}, { re := some (.bool false) }] ⟨[tB 4 false], [], []⟩ (.cons h315 (.cons (congrArg AV.bool h316) (.cons (congrArg AV.bool h317) (.cons h318 (.cons (cspec_SymbolByte h319) (.cons (congrArg AV.bool h320) .nil)))))) ?_
        obtain rfl := Option.some.inj h; exact Wc.ret dn
  · refine Wc.r2 [{}, {}, {}, {}, { re := some (.bool false) }] ⟨[tB 4 false], [], []⟩ (.cons h315 (.cons (congrArg AV.bool h316) .nil)) ?_
    obtain rfl := Option.some.inj h; exact Wc.ret dn

def pspec_l05Sign_L2 (k : Nat) (u1 : ByteArray) : Nat → Int → Int → Option (Out (GSign × Int) (Int × Int))
  | 0, _, _ => none
  | m + 1, zn, u1g =>
    if (decide (zn < (u1.size : Int))) = true then
      if 0 ≤ zn ∧ (zn).toNat < u1.size then
        (pspec_l05Figure k (bt u1 zn)).bind fun uck =>
        if uck = true then
          if (decide (u1g ≤ 999999999)) = true then
            if 0 ≤ zn ∧ (zn).toNat < u1.size then
              pspec_l05Sign_L2 k u1 m (wr.i64 (zn + 1)) (wr.i64 ((wr.i64 ((wr.i64 (10 * u1g)) + (wr.i64 (bt u1 zn)))) - 48))
            else none
          else
            some (.done (zn, u1g))
        else
          some (.done (zn, u1g))
      else none
    else
      some (.done (zn, u1g))
def pspec_l05Sign_L5 (k : Nat) (u1 : ByteArray) : Nat → Int → Option (Out (GSign × Int) Int)
  | 0, _ => none
  | m + 1, u20 =>
    if (decide (u20 < (u1.size : Int))) = true then
      if 0 ≤ u20 ∧ (u20).toNat < u1.size then
        (pspec_SymbolByte k (bt u1 u20)).bind fun ucl =>
        if ucl = true then
          pspec_l05Sign_L5 k u1 m (wr.i64 (u20 + 1))
        else
          some (.done u20)
      else none
    else
      some (.done u20)
def pspec_l05Sign_J4 (k : Nat) (u1 : ByteArray) (u0 : Int) (ua0 : Bool) : Option (GSign × Int) :=
  if ua0 = true then
    some (GSign.mk 4 (u1.extract (u0 : Int).toNat ((wr.i64 (u0 + 1)) : Int).toNat) 0 u0 false, wr.i64 (u0 + 1))
  else
    (pspec_l05End k u1 u0).bind fun ucm =>
    if ucm = true then
      some (GSign.mk 5 (u1.extract (u0 : Int).toNat ((wr.i64 (u0 + 1)) : Int).toNat) 0 u0 false, wr.i64 (u0 + 1))
    else
      (pspec_SymbolByte k (bt u1 u0)).bind fun ucn =>
      if ucn = true then
        (pspec_l05Sign_L5 k u1 k u0).bind fun out5 => match out5 with
        | .ret r => some r
        | .done u1q =>
          if (decide ((wr.i64 (u1q - u0)) ≤ 20)) = true then
            if 0 ≤ u0 ∧ u0 ≤ u1q ∧ u1q ≤ (u1.size : Int) then
              some (GSign.mk 1 (u1.extract (u0 : Int).toNat (u1q : Int).toNat) 0 u0 false, u1q)
            else none
          else
            some (GSign.mk 6 (u1.extract (u0 : Int).toNat ((wr.i64 (u0 + 1)) : Int).toNat) 0 u0 false, wr.i64 (u0 + 1))
      else
        some (GSign.mk 6 (u1.extract (u0 : Int).toNat ((wr.i64 (u0 + 1)) : Int).toNat) 0 u0 false, wr.i64 (u0 + 1))
def pspec_l05Sign_J3 (k : Nat) (u1 : ByteArray) (u0 : Int) (ua1 : Bool) : Option (GSign × Int) :=
  if ua1 = true then
    some (GSign.mk 1 (u1.extract (u0 : Int).toNat ((wr.i64 (u0 + 1)) : Int).toNat) 0 u0 false, wr.i64 (u0 + 1))
  else
    if ((bt u1 u0) == 40) = true then
      pspec_l05Sign_J4 k u1 u0 true
    else
      if ((bt u1 u0) == 41) = true then
        pspec_l05Sign_J4 k u1 u0 true
      else
        if ((bt u1 u0) == 91) = true then
          pspec_l05Sign_J4 k u1 u0 true
        else
          if ((bt u1 u0) == 93) = true then
            pspec_l05Sign_J4 k u1 u0 true
          else
            if ((bt u1 u0) == 44) = true then
              pspec_l05Sign_J4 k u1 u0 true
            else
              pspec_l05Sign_J4 k u1 u0 ((bt u1 u0) == 124)
def pspec_l05Sign_J1 (k : Nat) (u1 : ByteArray) (u0 : Int) (ua2 : Bool) : Option (GSign × Int) :=
  if ua2 = true then
    (pspec_l05Run k u1 u0).bind fun z1 =>
    if (decide ((wr.i64 (z1 - u0)) ≤ 20)) = true then
      (pspec_l05Great k (bt u1 u0)).bind fun uco =>
      if uco = true then
        if 0 ≤ u0 ∧ u0 ≤ z1 ∧ z1 ≤ (u1.size : Int) then
          some (GSign.mk 2 (u1.extract (u0 : Int).toNat (z1 : Int).toNat) 0 u0 false, z1)
        else none
      else
        if 0 ≤ u0 ∧ u0 ≤ z1 ∧ z1 ≤ (u1.size : Int) then
          some (GSign.mk 1 (u1.extract (u0 : Int).toNat (z1 : Int).toNat) 0 u0 false, z1)
        else none
    else
      some (GSign.mk 6 (u1.extract (u0 : Int).toNat ((wr.i64 (u0 + 1)) : Int).toNat) 0 u0 false, wr.i64 (u0 + 1))
  else
    (pspec_l05Figure k (bt u1 u0)).bind fun ucp =>
    if ucp = true then
      (pspec_l05Sign_L2 k u1 k u0 0).bind fun out2 => match out2 with
      | .ret r => some r
      | .done (u6j, u59) =>
        if (decide (u59 ≤ 999999999)) = true then
          some (GSign.mk 3 (bs []) u59 u0 false, u6j)
        else
          some (GSign.mk 6 (u1.extract (u0 : Int).toNat ((wr.i64 (u0 + 1)) : Int).toNat) 0 u0 false, wr.i64 (u0 + 1))
    else
      if ((bt u1 u0) == 39) = true then
        (pspec_l05Quoted k u1 u0).bind fun u2f =>
        if (decide (u2f > 0)) = true then
          if 0 ≤ (wr.i64 (u0 + 1)) ∧ (wr.i64 (u0 + 1)) ≤ (wr.i64 (u2f - 1)) ∧ (wr.i64 (u2f - 1)) ≤ (u1.size : Int) then
            some (GSign.mk 1 (u1.extract ((wr.i64 (u0 + 1)) : Int).toNat ((wr.i64 (u2f - 1)) : Int).toNat) 0 u0 false, u2f)
          else none
        else
          some (GSign.mk 6 (u1.extract (u0 : Int).toNat ((wr.i64 (u0 + 1)) : Int).toNat) 0 u0 false, wr.i64 (u0 + 1))
      else
        if ((bt u1 u0) == 33) = true then
          pspec_l05Sign_J3 k u1 u0 true
        else
          pspec_l05Sign_J3 k u1 u0 ((bt u1 u0) == 59)
def pspec_l05Sign (k : Nat) (u1 : ByteArray) (u0 : Int) : Option (GSign × Int) :=
  if 0 ≤ u0 ∧ (u0).toNat < u1.size then
    if 0 ≤ u0 ∧ u0 ≤ (wr.i64 (u0 + 1)) ∧ (wr.i64 (u0 + 1)) ≤ (u1.size : Int) then
      (pspec_l05Small k (bt u1 u0)).bind fun ucq =>
      if ucq = true then
        pspec_l05Sign_J1 k u1 u0 true
      else
        (pspec_l05Great k (bt u1 u0)).bind fun ucr =>
        pspec_l05Sign_J1 k u1 u0 ucr
    else none
  else none
set_option maxHeartbeats 4000000 in
theorem cspec_l05Sign {k : Nat} {u1 : ByteArray} {u0 : Int} {r : GSign × Int} (h : pspec_l05Sign k u1 u0 = some r) : FnO Try.prog 162 [.v (.str u1) [], .v (aI u0) []] (.v (.tup [.agg (GSign.q r.1), aI r.2]) []) [] := by
  refine FnO.o2 Try.func162 (rfl : Try.f162.body = some _) ?_
  intro w0 X0 Fin pv0 pb
  unfold pspec_l05Sign at h
  apply Wc.seq
  refine Wc.r0 ⟨[tS 0 u1, tI 1 u0, tP 4 4], [bC 4 GSign.z], []⟩ ?_
  apply Wc.seq
  obtain ⟨h326, h⟩ := oguard h
  refine Wc.r2 [] ⟨[tS 0 u1, tI 1 u0, tP 4 4, tV 6 (.int .u8 (bt u1 u0))], [bC 4 GSign.z], []⟩ (.cons h326 .nil) ?_
  apply Wc.seq
  obtain ⟨h327, h⟩ := oguard h
  refine Wc.r2 [] ⟨[tS 0 u1, tI 1 u0, tP 4 4, tV 6 (.int .u8 (bt u1 u0)), tP 7 7], [bC 4 GSign.z, bC 7 [aI 6, .str (u1.extract (u0 : Int).toNat ((wr.i64 (u0 + 1)) : Int).toNat), aI 0, aI u0, .bool false]], []⟩ (.cons h327 .nil) ?_
  apply Wc.seq
  refine Wc.r0 ⟨[tS 0 u1, tI 1 u0, tP 4 4, tV 6 (.int .u8 (bt u1 u0)), tP 7 7, tI 8 (wr.i64 (u0 + 1))], [bC 4 GSign.z, bC 7 [aI 6, .str (u1.extract (u0 : Int).toNat ((wr.i64 (u0 + 1)) : Int).toNat), aI 0, aI u0, .bool false]], []⟩ ?_
  apply Wc.seq
  refine Wc.block ?_
  refine Wc.seqJ (fun st => ∃ (ua2 : Bool), st = ⟨[tS 0 u1, tI 1 u0, tP 4 4, tV 6 (.int .u8 (bt u1 u0)), tP 7 7, tI 8 (wr.i64 (u0 + 1)), tB 26 ua2], [bC 4 GSign.z, bC 7 [aI 6, .str (u1.extract (u0 : Int).toNat ((wr.i64 (u0 + 1)) : Int).toNat), aI 0, aI u0, .bool false]], []⟩ ∧ pspec_l05Sign_J1 k u1 u0 ua2 = some r) ?_ ?_
  · obtain ⟨ucq, h368, h⟩ := obind h
    rcases oif h with ⟨h369, h⟩ | ⟨h369, h⟩
    · refine Wc.r2 [{}, { r := some (.v (.bool ucq) []) }, { re := some (.bool true) }] ⟨[tS 0 u1, tI 1 u0, tP 4 4, tV 6 (.int .u8 (bt u1 u0)), tP 7 7, tI 8 (wr.i64 (u0 + 1)), tB 26 true], [bC 4 GSign.z, bC 7 [aI 6, .str (u1.extract (u0 : Int).toNat ((wr.i64 (u0 + 1)) : Int).toNat), aI 0, aI u0, .bool false]], []⟩ (.cons (cspec_l05Small h368) (.cons (congrArg AV.bool h369) .nil)) ?_
      exact ⟨_, rfl, h⟩
    · obtain ⟨ucr, h370, h⟩ := obind h
      refine Wc.r2 [{}, { r := some (.v (.bool ucq) []) }, { re := some (.bool false) }, {}, { r := some (.v (.bool ucr) []) }] ⟨[tS 0 u1, tI 1 u0, tP 4 4, tV 6 (.int .u8 (bt u1 u0)), tP 7 7, tI 8 (wr.i64 (u0 + 1)), tB 26 ucr], [bC 4 GSign.z, bC 7 [aI 6, .str (u1.extract (u0 : Int).toNat ((wr.i64 (u0 + 1)) : Int).toNat), aI 0, aI u0, .bool false]], []⟩ (.cons (cspec_l05Small h368) (.cons (congrArg AV.bool h369) (.cons (cspec_l05Great h370) .nil))) ?_
      exact ⟨_, rfl, h⟩
  · rintro st ⟨ua2, rfl, h⟩
    rcases oif h with ⟨h328, h⟩ | ⟨h328, h⟩
    · refine Wc.cT h328 ?_
      apply Wc.seq
      obtain ⟨z1, h329, h⟩ := obind h
      refine Wc.r2 [{}, {}, { r := some (.v (aI z1) []) }] ⟨[tS 0 u1, tI 1 u0, tP 4 4, tV 6 (.int .u8 (bt u1 u0)), tP 7 7, tI 8 (wr.i64 (u0 + 1)), tI 9 z1], [bC 4 GSign.z, bC 7 [aI 6, .str (u1.extract (u0 : Int).toNat ((wr.i64 (u0 + 1)) : Int).toNat), aI 0, aI u0, .bool false]], []⟩ (.cons (cspec_l05Run h329) .nil) ?_
      apply Wc.seq
      refine Wc.r0 ⟨[tS 0 u1, tI 1 u0, tP 4 4, tV 6 (.int .u8 (bt u1 u0)), tP 7 7, tI 8 (wr.i64 (u0 + 1)), tI 9 z1, tB 39 (decide ((wr.i64 (z1 - u0)) ≤ 20))], [bC 4 GSign.z, bC 7 [aI 6, .str (u1.extract (u0 : Int).toNat ((wr.i64 (u0 + 1)) : Int).toNat), aI 0, aI u0, .bool false]], []⟩ ?_
      rcases oif h with ⟨h330, h⟩ | ⟨h330, h⟩
      · refine Wc.cT h330 ?_
        apply Wc.seq
        refine Wc.r0 ⟨[tS 0 u1, tI 1 u0, tP 4 4, tV 6 (.int .u8 (bt u1 u0)), tP 7 7, tI 9 z1], [bC 4 GSign.z, bC 7 [aI 1, .str (u1.extract (u0 : Int).toNat ((wr.i64 (u0 + 1)) : Int).toNat), aI 0, aI u0, .bool false]], []⟩ ?_
        apply Wc.seq
        apply Wc.seq
        obtain ⟨uco, h331, h⟩ := obind h
        refine Wc.r2 [{}, { r := some (.v (.bool uco) []) }] ⟨[tS 0 u1, tI 1 u0, tP 4 4, tP 7 7, tI 9 z1, tB 42 uco], [bC 4 GSign.z, bC 7 [aI 1, .str (u1.extract (u0 : Int).toNat ((wr.i64 (u0 + 1)) : Int).toNat), aI 0, aI u0, .bool false]], []⟩ (.cons (cspec_l05Great h331) .nil) ?_
        rcases oif h with ⟨h332, h⟩ | ⟨h332, h⟩
        · refine Wc.cT h332 ?_
          refine Wc.r0 ⟨[tS 0 u1, tI 1 u0, tP 4 4, tP 7 7, tI 9 z1], [bC 4 GSign.z, bC 7 [aI 2, .str (u1.extract (u0 : Int).toNat ((wr.i64 (u0 + 1)) : Int).toNat), aI 0, aI u0, .bool false]], []⟩ ?_
          apply Wc.seq
          obtain ⟨h333, h⟩ := oguard h
          refine Wc.r2 [] ⟨[tP 4 4, tP 7 7, tI 9 z1], [bC 4 GSign.z, bC 7 [aI 2, .str (u1.extract (u0 : Int).toNat (z1 : Int).toNat), aI 0, aI u0, .bool false]], []⟩ (.cons h333 .nil) ?_
          refine Wc.r0 ⟨[tP 4 4, tP 7 7, tI 8 z1], [bC 4 GSign.z, bC 7 [aI 2, .str (u1.extract (u0 : Int).toNat (z1 : Int).toNat), aI 0, aI u0, .bool false]], []⟩ ?_
          apply Wc.seq
          refine Wc.r0 ⟨[tP 4 4, tI 5 z1], [bC 4 [aI 2, .str (u1.extract (u0 : Int).toNat (z1 : Int).toNat), aI 0, aI u0, .bool false]], []⟩ ?_
          obtain rfl := Option.some.inj h; exact Wc.ret dn
        · refine Wc.cF h332 ?_
          refine Wc.fx [] ⟨[tS 0 u1, tI 1 u0, tP 4 4, tP 7 7, tI 9 z1], [bC 4 GSign.z, bC 7 [aI 1, .str (u1.extract (u0 : Int).toNat ((wr.i64 (u0 + 1)) : Int).toNat), aI 0, aI u0, .bool false]], []⟩ ?_
          refine Wc.skip ?_
          apply Wc.seq
          obtain ⟨h334, h⟩ := oguard h
          refine Wc.r2 [] ⟨[tP 4 4, tP 7 7, tI 9 z1], [bC 4 GSign.z, bC 7 [aI 1, .str (u1.extract (u0 : Int).toNat (z1 : Int).toNat), aI 0, aI u0, .bool false]], []⟩ (.cons h334 .nil) ?_
          refine Wc.r0 ⟨[tP 4 4, tP 7 7, tI 8 z1], [bC 4 GSign.z, bC 7 [aI 1, .str (u1.extract (u0 : Int).toNat (z1 : Int).toNat), aI 0, aI u0, .bool false]], []⟩ ?_
          apply Wc.seq
          refine Wc.r0 ⟨[tP 4 4, tI 5 z1], [bC 4 [aI 1, .str (u1.extract (u0 : Int).toNat (z1 : Int).toNat), aI 0, aI u0, .bool false]], []⟩ ?_
          obtain rfl := Option.some.inj h; exact Wc.ret dn
      · refine Wc.cF h330 ?_
        refine Wc.fx [] ⟨[tP 4 4, tP 7 7, tI 8 (wr.i64 (u0 + 1))], [bC 4 GSign.z, bC 7 [aI 6, .str (u1.extract (u0 : Int).toNat ((wr.i64 (u0 + 1)) : Int).toNat), aI 0, aI u0, .bool false]], []⟩ ?_
        refine Wc.skip ?_
        apply Wc.seq
        refine Wc.r0 ⟨[tP 4 4, tI 5 (wr.i64 (u0 + 1))], [bC 4 [aI 6, .str (u1.extract (u0 : Int).toNat ((wr.i64 (u0 + 1)) : Int).toNat), aI 0, aI u0, .bool false]], []⟩ ?_
        obtain rfl := Option.some.inj h; exact Wc.ret dn
    · refine Wc.cF h328 ?_
      apply Wc.seq
      obtain ⟨ucp, h335, h⟩ := obind h
      refine Wc.r2 [{}, { r := some (.v (.bool ucp) []) }] ⟨[tS 0 u1, tI 1 u0, tP 4 4, tV 6 (.int .u8 (bt u1 u0)), tP 7 7, tI 8 (wr.i64 (u0 + 1)), tB 50 ucp], [bC 4 GSign.z, bC 7 [aI 6, .str (u1.extract (u0 : Int).toNat ((wr.i64 (u0 + 1)) : Int).toNat), aI 0, aI u0, .bool false]], []⟩ (.cons (cspec_l05Figure h335) .nil) ?_
      rcases oif h with ⟨h336, h⟩ | ⟨h336, h⟩
      · refine Wc.cT h336 ?_
        apply Wc.seq
        refine Wc.r0 ⟨[tS 0 u1, tI 1 u0, tP 4 4, tP 7 7, tI 8 (wr.i64 (u0 + 1)), tI 10 u0], [bC 4 GSign.z, bC 7 [aI 6, .str (u1.extract (u0 : Int).toNat ((wr.i64 (u0 + 1)) : Int).toNat), aI 0, aI u0, .bool false]], []⟩ ?_
        apply Wc.seq
        refine Wc.r0 ⟨[tS 0 u1, tI 1 u0, tP 4 4, tP 7 7, tI 8 (wr.i64 (u0 + 1)), tI 10 u0, tI 11 0], [bC 4 GSign.z, bC 7 [aI 6, .str (u1.extract (u0 : Int).toNat ((wr.i64 (u0 + 1)) : Int).toNat), aI 0, aI u0, .bool false]], []⟩ ?_
        obtain ⟨out2, h337, h⟩ := obind h
        refine Wc.seqJ (fun st => ∃ (u6j : Int) (u59 : Int), out2 = .done (u6j, u59) ∧ st = ⟨[tI 1 u0, tP 4 4, tP 7 7, tI 8 (wr.i64 (u0 + 1)), tI 10 u6j, tI 11 u59], [bC 4 GSign.z, bC 7 [aI 6, .str (u1.extract (u0 : Int).toNat ((wr.i64 (u0 + 1)) : Int).toNat), aI 0, aI u0, .bool false]], []⟩) ?_ ?_
        · refine Wc.block ?_
          refine Wc.loop (fun m st => ∃ (zn : Int) (u1g : Int), st = ⟨[tS 0 u1, tI 1 u0, tP 4 4, tP 7 7, tI 8 (wr.i64 (u0 + 1)), tI 10 zn, tI 11 u1g], [bC 4 GSign.z, bC 7 [aI 6, .str (u1.extract (u0 : Int).toNat ((wr.i64 (u0 + 1)) : Int).toNat), aI 0, aI u0, .bool false]], []⟩ ∧ pspec_l05Sign_L2 k u1 m zn u1g = some out2) ?_ k ⟨_, _, rfl, h337⟩
          rintro m st ⟨zn, u1g, rfl, h337⟩
          cases m with
          | zero => exact (onone h337).elim
          | succ m =>
            apply Wc.seq
            apply Wc.seq
            rcases oif h337 with ⟨h338, h337⟩ | ⟨h338, h337⟩
            · obtain ⟨h339, h337⟩ := oguard h337
              obtain ⟨uck, h340, h337⟩ := obind h337
              rcases oif h337 with ⟨h341, h337⟩ | ⟨h341, h337⟩
              · refine Wc.r2 [{}, {}, {}, {}, { re := some (.bool true) }, {}, {}, {}, { r := some (.v (.bool uck) []) }, {}, { re := some (.bool true) }] ⟨[tS 0 u1, tI 1 u0, tP 4 4, tP 7 7, tI 8 (wr.i64 (u0 + 1)), tI 10 zn, tI 11 u1g, tB 67 (decide (u1g ≤ 999999999))], [bC 4 GSign.z, bC 7 [aI 6, .str (u1.extract (u0 : Int).toNat ((wr.i64 (u0 + 1)) : Int).toNat), aI 0, aI u0, .bool false]], []⟩ (.cons (congrArg AV.bool h338) (.cons h339 (.cons (cspec_l05Figure h340) (.cons (congrArg AV.bool h341) .nil)))) ?_
                rcases oif h337 with ⟨h342, h337⟩ | ⟨h342, h337⟩
                · refine Wc.cT h342 ?_
                  refine Wc.fx [] ⟨[tS 0 u1, tI 1 u0, tP 4 4, tP 7 7, tI 8 (wr.i64 (u0 + 1)), tI 10 zn, tI 11 u1g], [bC 4 GSign.z, bC 7 [aI 6, .str (u1.extract (u0 : Int).toNat ((wr.i64 (u0 + 1)) : Int).toNat), aI 0, aI u0, .bool false]], []⟩ ?_
                  refine Wc.skip ?_
                  refine Wc.block ?_
                  apply Wc.seq
                  obtain ⟨h343, h337⟩ := oguard h337
                  refine Wc.r2 [] ⟨[tS 0 u1, tI 1 u0, tP 4 4, tP 7 7, tI 8 (wr.i64 (u0 + 1)), tI 10 zn, tI 11 (wr.i64 ((wr.i64 ((wr.i64 (10 * u1g)) + (wr.i64 (bt u1 zn)))) - 48))], [bC 4 GSign.z, bC 7 [aI 6, .str (u1.extract (u0 : Int).toNat ((wr.i64 (u0 + 1)) : Int).toNat), aI 0, aI u0, .bool false]], []⟩ (.cons h343 .nil) ?_
                  refine Wc.r0 ⟨[tS 0 u1, tI 1 u0, tP 4 4, tP 7 7, tI 8 (wr.i64 (u0 + 1)), tI 10 (wr.i64 (zn + 1)), tI 11 (wr.i64 ((wr.i64 ((wr.i64 (10 * u1g)) + (wr.i64 (bt u1 zn)))) - 48))], [bC 4 GSign.z, bC 7 [aI 6, .str (u1.extract (u0 : Int).toNat ((wr.i64 (u0 + 1)) : Int).toNat), aI 0, aI u0, .bool false]], []⟩ ?_
                  exact ⟨_, Nat.lt_succ_self _, _, _, rfl, h337⟩
                · refine Wc.cF h342 ?_
                  refine Wc.fx [] ⟨[tI 1 u0, tP 4 4, tP 7 7, tI 8 (wr.i64 (u0 + 1)), tI 10 zn, tI 11 u1g], [bC 4 GSign.z, bC 7 [aI 6, .str (u1.extract (u0 : Int).toNat ((wr.i64 (u0 + 1)) : Int).toNat), aI 0, aI u0, .bool false]], []⟩ ?_
                  refine Wc.exit ?_
                  obtain rfl := Option.some.inj h337
                  exact ⟨_, _, rfl, rfl⟩
              · refine Wc.r2 [{}, {}, {}, {}, { re := some (.bool true) }, {}, {}, {}, { r := some (.v (.bool uck) []) }, {}, { re := some (.bool false) }] ⟨[tS 0 u1, tI 1 u0, tP 4 4, tP 7 7, tI 8 (wr.i64 (u0 + 1)), tI 10 zn, tI 11 u1g, tB 67 false], [bC 4 GSign.z, bC 7 [aI 6, .str (u1.extract (u0 : Int).toNat ((wr.i64 (u0 + 1)) : Int).toNat), aI 0, aI u0, .bool false]], []⟩ (.cons (congrArg AV.bool h338) (.cons h339 (.cons (cspec_l05Figure h340) (.cons (congrArg AV.bool h341) .nil)))) ?_
                refine Wc.cF rfl ?_
                refine Wc.fx [] ⟨[tI 1 u0, tP 4 4, tP 7 7, tI 8 (wr.i64 (u0 + 1)), tI 10 zn, tI 11 u1g], [bC 4 GSign.z, bC 7 [aI 6, .str (u1.extract (u0 : Int).toNat ((wr.i64 (u0 + 1)) : Int).toNat), aI 0, aI u0, .bool false]], []⟩ ?_
                refine Wc.exit ?_
                obtain rfl := Option.some.inj h337
                exact ⟨_, _, rfl, rfl⟩
            · refine Wc.r2 [{}, {}, {}, {}, { re := some (.bool false) }] ⟨[tS 0 u1, tI 1 u0, tP 4 4, tP 7 7, tI 8 (wr.i64 (u0 + 1)), tI 10 zn, tI 11 u1g, tB 67 false], [bC 4 GSign.z, bC 7 [aI 6, .str (u1.extract (u0 : Int).toNat ((wr.i64 (u0 + 1)) : Int).toNat), aI 0, aI u0, .bool false]], []⟩ (.cons (congrArg AV.bool h338) .nil) ?_
              refine Wc.cF rfl ?_
              refine Wc.fx [] ⟨[tI 1 u0, tP 4 4, tP 7 7, tI 8 (wr.i64 (u0 + 1)), tI 10 zn, tI 11 u1g], [bC 4 GSign.z, bC 7 [aI 6, .str (u1.extract (u0 : Int).toNat ((wr.i64 (u0 + 1)) : Int).toNat), aI 0, aI u0, .bool false]], []⟩ ?_
              refine Wc.exit ?_
              obtain rfl := Option.some.inj h337
              exact ⟨_, _, rfl, rfl⟩
        · rintro st ⟨u6j, u59, rfl, rfl⟩
          apply Wc.seq
          refine Wc.r0 ⟨[tI 1 u0, tP 4 4, tP 7 7, tI 8 (wr.i64 (u0 + 1)), tI 10 u6j, tI 11 u59, tB 79 (decide (u59 ≤ 999999999))], [bC 4 GSign.z, bC 7 [aI 6, .str (u1.extract (u0 : Int).toNat ((wr.i64 (u0 + 1)) : Int).toNat), aI 0, aI u0, .bool false]], []⟩ ?_
          rcases oif h with ⟨h344, h⟩ | ⟨h344, h⟩
          · refine Wc.cT h344 ?_
            apply Wc.seq
            refine Wc.r0 ⟨[tP 4 4, tI 5 u6j], [bC 4 [aI 3, .str (bs []), aI u59, aI u0, .bool false]], []⟩ ?_
            obtain rfl := Option.some.inj h; exact Wc.ret dn
          · refine Wc.cF h344 ?_
            refine Wc.fx [] ⟨[tP 4 4, tP 7 7, tI 8 (wr.i64 (u0 + 1))], [bC 4 GSign.z, bC 7 [aI 6, .str (u1.extract (u0 : Int).toNat ((wr.i64 (u0 + 1)) : Int).toNat), aI 0, aI u0, .bool false]], []⟩ ?_
            refine Wc.skip ?_
            apply Wc.seq
            refine Wc.r0 ⟨[tP 4 4, tI 5 (wr.i64 (u0 + 1))], [bC 4 [aI 6, .str (u1.extract (u0 : Int).toNat ((wr.i64 (u0 + 1)) : Int).toNat), aI 0, aI u0, .bool false]], []⟩ ?_
            obtain rfl := Option.some.inj h; exact Wc.ret dn
      · refine Wc.cF h336 ?_
        apply Wc.seq
        refine Wc.r0 ⟨[tS 0 u1, tI 1 u0, tP 4 4, tV 6 (.int .u8 (bt u1 u0)), tP 7 7, tI 8 (wr.i64 (u0 + 1)), tB 84 ((bt u1 u0) == 39)], [bC 4 GSign.z, bC 7 [aI 6, .str (u1.extract (u0 : Int).toNat ((wr.i64 (u0 + 1)) : Int).toNat), aI 0, aI u0, .bool false]], []⟩ ?_
        rcases oif h with ⟨h345, h⟩ | ⟨h345, h⟩
        · refine Wc.cT h345 ?_
          apply Wc.seq
          obtain ⟨u2f, h346, h⟩ := obind h
          refine Wc.r2 [{}, {}, { r := some (.v (aI u2f) []) }] ⟨[tS 0 u1, tI 1 u0, tP 4 4, tP 7 7, tI 8 (wr.i64 (u0 + 1)), tI 12 u2f], [bC 4 GSign.z, bC 7 [aI 6, .str (u1.extract (u0 : Int).toNat ((wr.i64 (u0 + 1)) : Int).toNat), aI 0, aI u0, .bool false]], []⟩ (.cons (cspec_l05Quoted h346) .nil) ?_
          apply Wc.seq
          refine Wc.r0 ⟨[tS 0 u1, tI 1 u0, tP 4 4, tP 7 7, tI 8 (wr.i64 (u0 + 1)), tI 12 u2f, tB 91 (decide (u2f > 0))], [bC 4 GSign.z, bC 7 [aI 6, .str (u1.extract (u0 : Int).toNat ((wr.i64 (u0 + 1)) : Int).toNat), aI 0, aI u0, .bool false]], []⟩ ?_
          rcases oif h with ⟨h347, h⟩ | ⟨h347, h⟩
          · refine Wc.cT h347 ?_
            apply Wc.seq
            obtain ⟨h348, h⟩ := oguard h
            refine Wc.r2 [] ⟨[tP 4 4, tP 7 7, tI 12 u2f], [bC 4 GSign.z, bC 7 [aI 1, .str (u1.extract ((wr.i64 (u0 + 1)) : Int).toNat ((wr.i64 (u2f - 1)) : Int).toNat), aI 0, aI u0, .bool false]], []⟩ (.cons h348 .nil) ?_
            refine Wc.r0 ⟨[tP 4 4, tP 7 7, tI 8 u2f], [bC 4 GSign.z, bC 7 [aI 1, .str (u1.extract ((wr.i64 (u0 + 1)) : Int).toNat ((wr.i64 (u2f - 1)) : Int).toNat), aI 0, aI u0, .bool false]], []⟩ ?_
            apply Wc.seq
            refine Wc.r0 ⟨[tP 4 4, tI 5 u2f], [bC 4 [aI 1, .str (u1.extract ((wr.i64 (u0 + 1)) : Int).toNat ((wr.i64 (u2f - 1)) : Int).toNat), aI 0, aI u0, .bool false]], []⟩ ?_
            obtain rfl := Option.some.inj h; exact Wc.ret dn
          · refine Wc.cF h347 ?_
            refine Wc.fx [] ⟨[tP 4 4, tP 7 7, tI 8 (wr.i64 (u0 + 1))], [bC 4 GSign.z, bC 7 [aI 6, .str (u1.extract (u0 : Int).toNat ((wr.i64 (u0 + 1)) : Int).toNat), aI 0, aI u0, .bool false]], []⟩ ?_
            refine Wc.skip ?_
            apply Wc.seq
            refine Wc.r0 ⟨[tP 4 4, tI 5 (wr.i64 (u0 + 1))], [bC 4 [aI 6, .str (u1.extract (u0 : Int).toNat ((wr.i64 (u0 + 1)) : Int).toNat), aI 0, aI u0, .bool false]], []⟩ ?_
            obtain rfl := Option.some.inj h; exact Wc.ret dn
        · refine Wc.cF h345 ?_
          refine Wc.seqJ (fun st => ∃ (ua1 : Bool), st = ⟨[tS 0 u1, tI 1 u0, tP 4 4, tV 6 (.int .u8 (bt u1 u0)), tP 7 7, tI 8 (wr.i64 (u0 + 1)), tB 101 ua1], [bC 4 GSign.z, bC 7 [aI 6, .str (u1.extract (u0 : Int).toNat ((wr.i64 (u0 + 1)) : Int).toNat), aI 0, aI u0, .bool false]], []⟩ ∧ pspec_l05Sign_J3 k u1 u0 ua1 = some r) ?_ ?_
          · rcases oif h with ⟨h367, h⟩ | ⟨h367, h⟩
            · refine Wc.r2 [{}, {}, { re := some (.bool true) }] ⟨[tS 0 u1, tI 1 u0, tP 4 4, tV 6 (.int .u8 (bt u1 u0)), tP 7 7, tI 8 (wr.i64 (u0 + 1)), tB 101 true], [bC 4 GSign.z, bC 7 [aI 6, .str (u1.extract (u0 : Int).toNat ((wr.i64 (u0 + 1)) : Int).toNat), aI 0, aI u0, .bool false]], []⟩ (.cons (congrArg AV.bool h367) .nil) ?_
              exact ⟨_, rfl, h⟩
            · refine Wc.r2 [{}, {}, { re := some (.bool false) }] ⟨[tS 0 u1, tI 1 u0, tP 4 4, tV 6 (.int .u8 (bt u1 u0)), tP 7 7, tI 8 (wr.i64 (u0 + 1)), tB 101 ((bt u1 u0) == 59)], [bC 4 GSign.z, bC 7 [aI 6, .str (u1.extract (u0 : Int).toNat ((wr.i64 (u0 + 1)) : Int).toNat), aI 0, aI u0, .bool false]], []⟩ (.cons (congrArg AV.bool h367) .nil) ?_
              exact ⟨_, rfl, h⟩
          · rintro st ⟨ua1, rfl, h⟩
            rcases oif h with ⟨h349, h⟩ | ⟨h349, h⟩
            · refine Wc.cT h349 ?_
              refine Wc.r0 ⟨[tP 4 4, tP 7 7, tI 8 (wr.i64 (u0 + 1))], [bC 4 GSign.z, bC 7 [aI 1, .str (u1.extract (u0 : Int).toNat ((wr.i64 (u0 + 1)) : Int).toNat), aI 0, aI u0, .bool false]], []⟩ ?_
              apply Wc.seq
              refine Wc.r0 ⟨[tP 4 4, tI 5 (wr.i64 (u0 + 1))], [bC 4 [aI 1, .str (u1.extract (u0 : Int).toNat ((wr.i64 (u0 + 1)) : Int).toNat), aI 0, aI u0, .bool false]], []⟩ ?_
              obtain rfl := Option.some.inj h; exact Wc.ret dn
            · refine Wc.cF h349 ?_
              refine Wc.seqJ (fun st => ∃ (ua0 : Bool), st = ⟨[tS 0 u1, tI 1 u0, tP 4 4, tV 6 (.int .u8 (bt u1 u0)), tP 7 7, tI 8 (wr.i64 (u0 + 1)), tB 109 ua0], [bC 4 GSign.z, bC 7 [aI 6, .str (u1.extract (u0 : Int).toNat ((wr.i64 (u0 + 1)) : Int).toNat), aI 0, aI u0, .bool false]], []⟩ ∧ pspec_l05Sign_J4 k u1 u0 ua0 = some r) ?_ ?_
              · rcases oif h with ⟨h362, h⟩ | ⟨h362, h⟩
                · refine Wc.r2 [{}, {}, { re := some (.bool true) }] ⟨[tS 0 u1, tI 1 u0, tP 4 4, tV 6 (.int .u8 (bt u1 u0)), tP 7 7, tI 8 (wr.i64 (u0 + 1)), tB 109 true], [bC 4 GSign.z, bC 7 [aI 6, .str (u1.extract (u0 : Int).toNat ((wr.i64 (u0 + 1)) : Int).toNat), aI 0, aI u0, .bool false]], []⟩ (.cons (congrArg AV.bool h362) .nil) ?_
                  exact ⟨_, rfl, h⟩
                · rcases oif h with ⟨h363, h⟩ | ⟨h363, h⟩
                  · refine Wc.r2 [{}, {}, { re := some (.bool false) }, {}, {}, {}, { re := some (.bool true) }] ⟨[tS 0 u1, tI 1 u0, tP 4 4, tV 6 (.int .u8 (bt u1 u0)), tP 7 7, tI 8 (wr.i64 (u0 + 1)), tB 109 true], [bC 4 GSign.z, bC 7 [aI 6, .str (u1.extract (u0 : Int).toNat ((wr.i64 (u0 + 1)) : Int).toNat), aI 0, aI u0, .bool false]], []⟩ (.cons (congrArg AV.bool h362) (.cons (congrArg AV.bool h363) .nil)) ?_
                    exact ⟨_, rfl, h⟩
                  · rcases oif h with ⟨h364, h⟩ | ⟨h364, h⟩
                    · refine Wc.r2 [{}, {}, { re := some (.bool false) }, {}, {}, {}, { re := some (.bool false) }, {}, {}, {}, { re := some (.bool true) }] ⟨[tS 0 u1, tI 1 u0, tP 4 4, tV 6 (.int .u8 (bt u1 u0)), tP 7 7, tI 8 (wr.i64 (u0 + 1)), tB 109 true], [bC 4 GSign.z, bC 7 [aI 6, .str (u1.extract (u0 : Int).toNat ((wr.i64 (u0 + 1)) : Int).toNat), aI 0, aI u0, .bool false]], []⟩ (.cons (congrArg AV.bool h362) (.cons (congrArg AV.bool h363) (.cons (congrArg AV.bool h364) .nil))) ?_
                      exact ⟨_, rfl, h⟩
                    · rcases oif h with ⟨h365, h⟩ | ⟨h365, h⟩
                      · refine Wc.r2 [{}, {}, { re := some (.bool false) }, {}, {}, {}, { re := some (.bool false) }, {}, {}, {}, { re := some (.bool false) }, {}, {}, {}, { re := some (.bool true) }] ⟨[tS 0 u1, tI 1 u0, tP 4 4, tV 6 (.int .u8 (bt u1 u0)), tP 7 7, tI 8 (wr.i64 (u0 + 1)), tB 109 true], [bC 4 GSign.z, bC 7 [aI 6, .str (u1.extract (u0 : Int).toNat ((wr.i64 (u0 + 1)) : Int).toNat), aI 0, aI u0, .bool false]], []⟩ (.cons (congrArg AV.bool h362) (.cons (congrArg AV.bool h363) (.cons (congrArg AV.bool h364) (.cons (congrArg AV.bool h365) .nil)))) ?_
                        exact ⟨_, rfl, h⟩
                      · rcases oif h with ⟨h366, h⟩ | ⟨h366, h⟩
                        · refine Wc.r2 [{}, {}, { re := some (.bool false) }, {}, {}, {}, { re := some (.bool false) }, {}, {}, {}, { re := some (.bool false) }, {}, {}, {}, { re := some (.bool false) }, {}, {}, {}, { re := some (.bool true) }] ⟨[tS 0 u1, tI 1 u0, tP 4 4, tV 6 (.int .u8 (bt u1 u0)), tP 7 7, tI 8 (wr.i64 (u0 + 1)), tB 109 true], [bC 4 GSign.z, bC 7 [aI 6, .str (u1.extract (u0 : Int).toNat ((wr.i64 (u0 + 1)) : Int).toNat), aI 0, aI u0, .bool false]], []⟩ (.cons (congrArg AV.bool h362) (.cons (congrArg AV.bool h363) (.cons (congrArg AV.bool h364) (.cons (congrArg AV.bool h365) (.cons (congrArg AV.bool h366) .nil))))) ?_
                          exact ⟨_, rfl, h⟩
                        · refine Wc.r2 [{}, {}, { re := some (.bool false) }, {}, {}, {}, { re := some (.bool false) }, {}, {}, {}, { re := some (.bool false) }, {}, {}, {}, { re := some (.bool false) }, {}, {}, {}, { re := some (.bool false) }] ⟨[tS 0 u1, tI 1 u0, tP 4 4, tV 6 (.int .u8 (bt u1 u0)), tP 7 7, tI 8 (wr.i64 (u0 + 1)), tB 109 ((bt u1 u0) == 124)], [bC 4 GSign.z, bC 7 [aI 6, .str (u1.extract (u0 : Int).toNat ((wr.i64 (u0 + 1)) : Int).toNat), aI 0, aI u0, .bool false]], []⟩ (.cons (congrArg AV.bool h362) (.cons (congrArg AV.bool h363) (.cons (congrArg AV.bool h364) (.cons (congrArg AV.bool h365) (.cons (congrArg AV.bool h366) .nil))))) ?_
                          exact ⟨_, rfl, h⟩
              · rintro st ⟨ua0, rfl, h⟩
                rcases oif h with ⟨h350, h⟩ | ⟨h350, h⟩
                · refine Wc.cT h350 ?_
                  refine Wc.r0 ⟨[tP 4 4, tP 7 7, tI 8 (wr.i64 (u0 + 1))], [bC 4 GSign.z, bC 7 [aI 4, .str (u1.extract (u0 : Int).toNat ((wr.i64 (u0 + 1)) : Int).toNat), aI 0, aI u0, .bool false]], []⟩ ?_
                  apply Wc.seq
                  refine Wc.r0 ⟨[tP 4 4, tI 5 (wr.i64 (u0 + 1))], [bC 4 [aI 4, .str (u1.extract (u0 : Int).toNat ((wr.i64 (u0 + 1)) : Int).toNat), aI 0, aI u0, .bool false]], []⟩ ?_
                  obtain rfl := Option.some.inj h; exact Wc.ret dn
                · refine Wc.cF h350 ?_
                  apply Wc.seq
                  obtain ⟨ucm, h351, h⟩ := obind h
                  refine Wc.r2 [{}, {}, { r := some (.v (.bool ucm) []) }] ⟨[tS 0 u1, tI 1 u0, tP 4 4, tV 6 (.int .u8 (bt u1 u0)), tP 7 7, tI 8 (wr.i64 (u0 + 1)), tB 133 ucm], [bC 4 GSign.z, bC 7 [aI 6, .str (u1.extract (u0 : Int).toNat ((wr.i64 (u0 + 1)) : Int).toNat), aI 0, aI u0, .bool false]], []⟩ (.cons (cspec_l05End h351) .nil) ?_
                  rcases oif h with ⟨h352, h⟩ | ⟨h352, h⟩
                  · refine Wc.cT h352 ?_
                    refine Wc.r0 ⟨[tP 4 4, tP 7 7, tI 8 (wr.i64 (u0 + 1))], [bC 4 GSign.z, bC 7 [aI 5, .str (u1.extract (u0 : Int).toNat ((wr.i64 (u0 + 1)) : Int).toNat), aI 0, aI u0, .bool false]], []⟩ ?_
                    apply Wc.seq
                    refine Wc.r0 ⟨[tP 4 4, tI 5 (wr.i64 (u0 + 1))], [bC 4 [aI 5, .str (u1.extract (u0 : Int).toNat ((wr.i64 (u0 + 1)) : Int).toNat), aI 0, aI u0, .bool false]], []⟩ ?_
                    obtain rfl := Option.some.inj h; exact Wc.ret dn
                  · refine Wc.cF h352 ?_
                    apply Wc.seq
                    obtain ⟨ucn, h353, h⟩ := obind h
                    refine Wc.r2 [{}, { r := some (.v (.bool ucn) []) }] ⟨[tS 0 u1, tI 1 u0, tP 4 4, tP 7 7, tI 8 (wr.i64 (u0 + 1)), tB 138 ucn], [bC 4 GSign.z, bC 7 [aI 6, .str (u1.extract (u0 : Int).toNat ((wr.i64 (u0 + 1)) : Int).toNat), aI 0, aI u0, .bool false]], []⟩ (.cons (cspec_SymbolByte h353) .nil) ?_
                    rcases oif h with ⟨h354, h⟩ | ⟨h354, h⟩
                    · refine Wc.cT h354 ?_
                      apply Wc.seq
                      refine Wc.r0 ⟨[tS 0 u1, tI 1 u0, tP 4 4, tP 7 7, tI 8 (wr.i64 (u0 + 1)), tI 13 u0], [bC 4 GSign.z, bC 7 [aI 6, .str (u1.extract (u0 : Int).toNat ((wr.i64 (u0 + 1)) : Int).toNat), aI 0, aI u0, .bool false]], []⟩ ?_
                      obtain ⟨out5, h355, h⟩ := obind h
                      refine Wc.seqJ (fun st => ∃ (u1q : Int), out5 = .done u1q ∧ st = ⟨[tS 0 u1, tI 1 u0, tP 4 4, tP 7 7, tI 8 (wr.i64 (u0 + 1)), tI 13 u1q], [bC 4 GSign.z, bC 7 [aI 6, .str (u1.extract (u0 : Int).toNat ((wr.i64 (u0 + 1)) : Int).toNat), aI 0, aI u0, .bool false]], []⟩) ?_ ?_
                      · refine Wc.block ?_
                        refine Wc.loop (fun m st => ∃ (u20 : Int), st = ⟨[tS 0 u1, tI 1 u0, tP 4 4, tP 7 7, tI 8 (wr.i64 (u0 + 1)), tI 13 u20], [bC 4 GSign.z, bC 7 [aI 6, .str (u1.extract (u0 : Int).toNat ((wr.i64 (u0 + 1)) : Int).toNat), aI 0, aI u0, .bool false]], []⟩ ∧ pspec_l05Sign_L5 k u1 m u20 = some out5) ?_ k ⟨_, rfl, h355⟩
                        rintro m st ⟨u20, rfl, h355⟩
                        cases m with
                        | zero => exact (onone h355).elim
                        | succ m =>
                          apply Wc.seq
                          apply Wc.seq
                          rcases oif h355 with ⟨h356, h355⟩ | ⟨h356, h355⟩
                          · obtain ⟨h357, h355⟩ := oguard h355
                            obtain ⟨ucl, h358, h355⟩ := obind h355
                            refine Wc.r2 [{}, {}, {}, {}, { re := some (.bool true) }, {}, {}, {}, { r := some (.v (.bool ucl) []) }] ⟨[tS 0 u1, tI 1 u0, tP 4 4, tP 7 7, tI 8 (wr.i64 (u0 + 1)), tI 13 u20, tB 151 ucl], [bC 4 GSign.z, bC 7 [aI 6, .str (u1.extract (u0 : Int).toNat ((wr.i64 (u0 + 1)) : Int).toNat), aI 0, aI u0, .bool false]], []⟩ (.cons (congrArg AV.bool h356) (.cons h357 (.cons (cspec_SymbolByte h358) .nil))) ?_
                            rcases oif h355 with ⟨h359, h355⟩ | ⟨h359, h355⟩
                            · refine Wc.cT h359 ?_
                              refine Wc.fx [] ⟨[tS 0 u1, tI 1 u0, tP 4 4, tP 7 7, tI 8 (wr.i64 (u0 + 1)), tI 13 u20], [bC 4 GSign.z, bC 7 [aI 6, .str (u1.extract (u0 : Int).toNat ((wr.i64 (u0 + 1)) : Int).toNat), aI 0, aI u0, .bool false]], []⟩ ?_
                              refine Wc.skip ?_
                              refine Wc.block ?_
                              refine Wc.r0 ⟨[tS 0 u1, tI 1 u0, tP 4 4, tP 7 7, tI 8 (wr.i64 (u0 + 1)), tI 13 (wr.i64 (u20 + 1))], [bC 4 GSign.z, bC 7 [aI 6, .str (u1.extract (u0 : Int).toNat ((wr.i64 (u0 + 1)) : Int).toNat), aI 0, aI u0, .bool false]], []⟩ ?_
                              exact ⟨_, Nat.lt_succ_self _, _, rfl, h355⟩
                            · refine Wc.cF h359 ?_
                              refine Wc.fx [] ⟨[tS 0 u1, tI 1 u0, tP 4 4, tP 7 7, tI 8 (wr.i64 (u0 + 1)), tI 13 u20], [bC 4 GSign.z, bC 7 [aI 6, .str (u1.extract (u0 : Int).toNat ((wr.i64 (u0 + 1)) : Int).toNat), aI 0, aI u0, .bool false]], []⟩ ?_
                              refine Wc.exit ?_
                              obtain rfl := Option.some.inj h355
                              exact ⟨_, rfl, rfl⟩
                          · refine Wc.r2 [{}, {}, {}, {}, { re := some (.bool false) }] ⟨[tS 0 u1, tI 1 u0, tP 4 4, tP 7 7, tI 8 (wr.i64 (u0 + 1)), tI 13 u20, tB 151 false], [bC 4 GSign.z, bC 7 [aI 6, .str (u1.extract (u0 : Int).toNat ((wr.i64 (u0 + 1)) : Int).toNat), aI 0, aI u0, .bool false]], []⟩ (.cons (congrArg AV.bool h356) .nil) ?_
                            refine Wc.cF rfl ?_
                            refine Wc.fx [] ⟨[tS 0 u1, tI 1 u0, tP 4 4, tP 7 7, tI 8 (wr.i64 (u0 + 1)), tI 13 u20], [bC 4 GSign.z, bC 7 [aI 6, .str (u1.extract (u0 : Int).toNat ((wr.i64 (u0 + 1)) : Int).toNat), aI 0, aI u0, .bool false]], []⟩ ?_
                            refine Wc.exit ?_
                            obtain rfl := Option.some.inj h355
                            exact ⟨_, rfl, rfl⟩
                      · rintro st ⟨u1q, rfl, rfl⟩
                        apply Wc.seq
                        refine Wc.r0 ⟨[tS 0 u1, tI 1 u0, tP 4 4, tP 7 7, tI 8 (wr.i64 (u0 + 1)), tI 13 u1q, tB 157 (decide ((wr.i64 (u1q - u0)) ≤ 20))], [bC 4 GSign.z, bC 7 [aI 6, .str (u1.extract (u0 : Int).toNat ((wr.i64 (u0 + 1)) : Int).toNat), aI 0, aI u0, .bool false]], []⟩ ?_
                        rcases oif h with ⟨h360, h⟩ | ⟨h360, h⟩
                        · refine Wc.cT h360 ?_
                          apply Wc.seq
                          refine Wc.r0 ⟨[tS 0 u1, tI 1 u0, tP 4 4, tP 7 7, tI 13 u1q], [bC 4 GSign.z, bC 7 [aI 1, .str (u1.extract (u0 : Int).toNat ((wr.i64 (u0 + 1)) : Int).toNat), aI 0, aI u0, .bool false]], []⟩ ?_
                          apply Wc.seq
                          obtain ⟨h361, h⟩ := oguard h
                          refine Wc.r2 [] ⟨[tP 4 4, tP 7 7, tI 13 u1q], [bC 4 GSign.z, bC 7 [aI 1, .str (u1.extract (u0 : Int).toNat (u1q : Int).toNat), aI 0, aI u0, .bool false]], []⟩ (.cons h361 .nil) ?_
                          refine Wc.r0 ⟨[tP 4 4, tP 7 7, tI 8 u1q], [bC 4 GSign.z, bC 7 [aI 1, .str (u1.extract (u0 : Int).toNat (u1q : Int).toNat), aI 0, aI u0, .bool false]], []⟩ ?_
                          apply Wc.seq
                          refine Wc.r0 ⟨[tP 4 4, tI 5 u1q], [bC 4 [aI 1, .str (u1.extract (u0 : Int).toNat (u1q : Int).toNat), aI 0, aI u0, .bool false]], []⟩ ?_
                          obtain rfl := Option.some.inj h; exact Wc.ret dn
                        · refine Wc.cF h360 ?_
                          refine Wc.fx [] ⟨[tP 4 4, tP 7 7, tI 8 (wr.i64 (u0 + 1))], [bC 4 GSign.z, bC 7 [aI 6, .str (u1.extract (u0 : Int).toNat ((wr.i64 (u0 + 1)) : Int).toNat), aI 0, aI u0, .bool false]], []⟩ ?_
                          refine Wc.skip ?_
                          apply Wc.seq
                          refine Wc.r0 ⟨[tP 4 4, tI 5 (wr.i64 (u0 + 1))], [bC 4 [aI 6, .str (u1.extract (u0 : Int).toNat ((wr.i64 (u0 + 1)) : Int).toNat), aI 0, aI u0, .bool false]], []⟩ ?_
                          obtain rfl := Option.some.inj h; exact Wc.ret dn
                    · refine Wc.cF h354 ?_
                      refine Wc.fx [] ⟨[tP 4 4, tP 7 7, tI 8 (wr.i64 (u0 + 1))], [bC 4 GSign.z, bC 7 [aI 6, .str (u1.extract (u0 : Int).toNat ((wr.i64 (u0 + 1)) : Int).toNat), aI 0, aI u0, .bool false]], []⟩ ?_
                      refine Wc.skip ?_
                      apply Wc.seq
                      refine Wc.r0 ⟨[tP 4 4, tI 5 (wr.i64 (u0 + 1))], [bC 4 [aI 6, .str (u1.extract (u0 : Int).toNat ((wr.i64 (u0 + 1)) : Int).toNat), aI 0, aI u0, .bool false]], []⟩ ?_
                      obtain rfl := Option.some.inj h; exact Wc.ret dn

def pspec_SignsOf_L2 (k : Nat) (ug : ByteArray) : Nat → Int → Option (Out ((List GSign) × Bool) Int)
  | 0, _ => none
  | m + 1, u1r =>
    if (decide (u1r < (ug.size : Int))) = true then
      if 0 ≤ u1r ∧ (u1r).toNat < ug.size then
        if ((bt ug u1r) != 10) = true then
          pspec_SignsOf_L2 k ug m (wr.i64 (u1r + 1))
        else
          some (.done u1r)
      else none
    else
      some (.done u1r)
def pspec_SignsOf_L1 (k : Nat) (ug : ByteArray) : Nat → (List GSign) → Int → Option (Out ((List GSign) × Bool) (List GSign))
  | 0, _, _ => none
  | m + 1, v7, u05 =>
    if (decide (u05 < (ug.size : Int))) = true then
      if 0 ≤ u05 ∧ (u05).toNat < ug.size then
        (pspec_l05Blank k (bt ug u05)).bind fun ucs =>
        if ucs = true then
          pspec_SignsOf_L1 k ug m v7 (wr.i64 (u05 + 1))
        else
          if 0 ≤ u05 ∧ (u05).toNat < ug.size then
            if ((bt ug u05) == 37) = true then
              (pspec_SignsOf_L2 k ug k u05).bind fun out2 => match out2 with
              | .ret r => some (.ret r)
              | .done ua3 =>
                pspec_SignsOf_L1 k ug m v7 ua3
            else
              (pspec_l05Sign k ug u05).bind fun u4 =>
              if (decide (u4.2 < (ug.size : Int))) = true then
                if 0 ≤ u4.2 ∧ (u4.2).toNat < ug.size then
                  if v7.length + [GSign.mk u4.1.gKind u4.1.gText u4.1.gNum u4.1.gAt ((bt ug u4.2) == 40)].length ≤ 1073741824 then
                    pspec_SignsOf_L1 k ug m (v7 ++ [GSign.mk u4.1.gKind u4.1.gText u4.1.gNum u4.1.gAt ((bt ug u4.2) == 40)]) u4.2
                  else none
                else none
              else
                if v7.length + [GSign.mk u4.1.gKind u4.1.gText u4.1.gNum u4.1.gAt false].length ≤ 1073741824 then
                  pspec_SignsOf_L1 k ug m (v7 ++ [GSign.mk u4.1.gKind u4.1.gText u4.1.gNum u4.1.gAt false]) u4.2
                else none
          else none
      else none
    else
      some (.done v7)
def pspec_SignsOf (k : Nat) (ug : ByteArray) : Option ((List GSign) × Bool) :=
  if (decide ((ug.size : Int) > 3000)) = true then
    some ([], false)
  else
    (pspec_SignsOf_L1 k ug k [] 0).bind fun out1 => match out1 with
    | .ret r => some r
    | .done u7y =>
      some (u7y, true)
set_option maxHeartbeats 4000000 in
theorem cspec_SignsOf {k : Nat} {ug : ByteArray} {r : (List GSign) × Bool} (h : pspec_SignsOf k ug = some r) : FnO Try.prog 136 [.v (.str ug) []] (.v (.tup [.sl (List.map GSign.c r.1), .bool r.2]) [(0, .app 174)]) [] := by
  refine FnO.o2 Try.func136 (rfl : Try.f136.body = some _) ?_
  intro w0 X0 Fin pv0 pb
  unfold pspec_SignsOf at h
  apply Wc.seq
  refine Wc.r0 ⟨[tS 0 ug], [], []⟩ ?_
  apply Wc.seq
  refine Wc.r2 [{ c := some (List.map GSign.c []) }, { tk := [8] }] ⟨[tS 0 ug, (4, (.v (.sl (List.map GSign.c [])), [(0, .app 174)]))], [], []⟩ (.cons (cl_nil GSign.c) .nil) ?_
  apply Wc.seq
  apply Wc.seq
  refine Wc.r0 ⟨[tS 0 ug, (4, (.v (.sl (List.map GSign.c [])), [(0, .app 174)])), tB 11 (decide ((ug.size : Int) > 3000))], [], []⟩ ?_
  rcases oif h with ⟨h388, h⟩ | ⟨h388, h⟩
  · refine Wc.cT h388 ?_
    apply Wc.seq
    refine Wc.r1 [{ tk := [4] }, { tk := [12] }] ⟨[(2, (.v (.sl (List.map GSign.c [])), [(0, .app 174)])), tB 3 false], [], []⟩ ?_
    obtain rfl := Option.some.inj h; exact Wc.ret dn
  · refine Wc.cF h388 ?_
    refine Wc.fx [] ⟨[tS 0 ug, (4, (.v (.sl (List.map GSign.c [])), [(0, .app 174)]))], [], []⟩ ?_
    refine Wc.skip ?_
    apply Wc.seq
    refine Wc.r0 ⟨[tS 0 ug, (4, (.v (.sl (List.map GSign.c [])), [(0, .app 174)])), tI 5 0], [], []⟩ ?_
    obtain ⟨out1, h389, h⟩ := obind h
    refine Wc.seqJ (fun st => ∃ (u7y : List GSign), out1 = .done u7y ∧ st = ⟨[(4, (.v (.sl (List.map GSign.c u7y)), [(0, .app 174)]))], [], []⟩) ?_ ?_
    · refine Wc.block ?_
      refine Wc.loop (fun m st => ∃ (v7 : List GSign) (u05 : Int), st = ⟨[tS 0 ug, (4, (.v (.sl (List.map GSign.c v7)), [(0, .app 174)])), tI 5 u05], [], []⟩ ∧ pspec_SignsOf_L1 k ug m v7 u05 = some out1) ?_ k ⟨_, _, rfl, h389⟩
      rintro m st ⟨v7, u05, rfl, h389⟩
      cases m with
      | zero => exact (onone h389).elim
      | succ m =>
        apply Wc.seq
        apply Wc.seq
        refine Wc.r0 ⟨[tS 0 ug, (4, (.v (.sl (List.map GSign.c v7)), [(0, .app 174)])), tI 5 u05, tB 16 (decide (u05 < (ug.size : Int)))], [], []⟩ ?_
        rcases oif h389 with ⟨h390, h389⟩ | ⟨h390, h389⟩
        · refine Wc.cT h390 ?_
          refine Wc.fx [] ⟨[tS 0 ug, (4, (.v (.sl (List.map GSign.c v7)), [(0, .app 174)])), tI 5 u05], [], []⟩ ?_
          refine Wc.skip ?_
          refine Wc.block ?_
          apply Wc.seq
          apply Wc.seq
          obtain ⟨h391, h389⟩ := oguard h389
          obtain ⟨ucs, h392, h389⟩ := obind h389
          refine Wc.r2 [{}, {}, {}, { r := some (.v (.bool ucs) []) }] ⟨[tS 0 ug, (4, (.v (.sl (List.map GSign.c v7)), [(0, .app 174)])), tI 5 u05, tB 20 ucs], [], []⟩ (.cons h391 (.cons (cspec_l05Blank h392) .nil)) ?_
          rcases oif h389 with ⟨h393, h389⟩ | ⟨h393, h389⟩
          · refine Wc.cT h393 ?_
            apply Wc.seq
            refine Wc.r0 ⟨[tS 0 ug, (4, (.v (.sl (List.map GSign.c v7)), [(0, .app 174)])), tI 5 (wr.i64 (u05 + 1))], [], []⟩ ?_
            refine Wc.exit ?_
            exact ⟨_, Nat.lt_succ_self _, _, _, rfl, h389⟩
          · refine Wc.cF h393 ?_
            refine Wc.fx [] ⟨[tS 0 ug, (4, (.v (.sl (List.map GSign.c v7)), [(0, .app 174)])), tI 5 u05], [], []⟩ ?_
            refine Wc.skip ?_
            apply Wc.seq
            apply Wc.seq
            obtain ⟨h394, h389⟩ := oguard h389
            refine Wc.r2 [] ⟨[tS 0 ug, (4, (.v (.sl (List.map GSign.c v7)), [(0, .app 174)])), tI 5 u05, tB 26 ((bt ug u05) == 37)], [], []⟩ (.cons h394 .nil) ?_
            rcases oif h389 with ⟨h395, h389⟩ | ⟨h395, h389⟩
            · refine Wc.cT h395 ?_
              obtain ⟨out2, h396, h389⟩ := obind h389
              refine Wc.seqJ (fun st => ∃ (ua3 : Int), out2 = .done ua3 ∧ st = ⟨[tS 0 ug, (4, (.v (.sl (List.map GSign.c v7)), [(0, .app 174)])), tI 5 ua3], [], []⟩) ?_ ?_
              · refine Wc.block ?_
                refine Wc.fx [] ⟨[tS 0 ug, (4, (.v (.sl (List.map GSign.c v7)), [(0, .app 174)])), tI 5 u05], [], []⟩ ?_
                refine Wc.loop (fun m st => ∃ (u1r : Int), st = ⟨[tS 0 ug, (4, (.v (.sl (List.map GSign.c v7)), [(0, .app 174)])), tI 5 u1r], [], []⟩ ∧ pspec_SignsOf_L2 k ug m u1r = some out2) ?_ k ⟨_, rfl, h396⟩
                rintro m st ⟨u1r, rfl, h396⟩
                cases m with
                | zero => exact (onone h396).elim
                | succ m =>
                  apply Wc.seq
                  apply Wc.seq
                  rcases oif h396 with ⟨h397, h396⟩ | ⟨h397, h396⟩
                  · obtain ⟨h398, h396⟩ := oguard h396
                    refine Wc.r2 [{}, {}, {}, {}, { re := some (.bool true) }] ⟨[tS 0 ug, (4, (.v (.sl (List.map GSign.c v7)), [(0, .app 174)])), tI 5 u1r, tB 36 ((bt ug u1r) != 10)], [], []⟩ (.cons (congrArg AV.bool h397) (.cons h398 .nil)) ?_
                    rcases oif h396 with ⟨h399, h396⟩ | ⟨h399, h396⟩
                    · refine Wc.cT h399 ?_
                      refine Wc.fx [] ⟨[tS 0 ug, (4, (.v (.sl (List.map GSign.c v7)), [(0, .app 174)])), tI 5 u1r], [], []⟩ ?_
                      refine Wc.skip ?_
                      refine Wc.block ?_
                      refine Wc.r0 ⟨[tS 0 ug, (4, (.v (.sl (List.map GSign.c v7)), [(0, .app 174)])), tI 5 (wr.i64 (u1r + 1))], [], []⟩ ?_
                      exact ⟨_, Nat.lt_succ_self _, _, rfl, h396⟩
                    · refine Wc.cF h399 ?_
                      refine Wc.fx [] ⟨[tS 0 ug, (4, (.v (.sl (List.map GSign.c v7)), [(0, .app 174)])), tI 5 u1r], [], []⟩ ?_
                      refine Wc.exit ?_
                      obtain rfl := Option.some.inj h396
                      exact ⟨_, rfl, rfl⟩
                  · refine Wc.r2 [{}, {}, {}, {}, { re := some (.bool false) }] ⟨[tS 0 ug, (4, (.v (.sl (List.map GSign.c v7)), [(0, .app 174)])), tI 5 u1r, tB 36 false], [], []⟩ (.cons (congrArg AV.bool h397) .nil) ?_
                    refine Wc.cF rfl ?_
                    refine Wc.fx [] ⟨[tS 0 ug, (4, (.v (.sl (List.map GSign.c v7)), [(0, .app 174)])), tI 5 u1r], [], []⟩ ?_
                    refine Wc.exit ?_
                    obtain rfl := Option.some.inj h396
                    exact ⟨_, rfl, rfl⟩
              · rintro st ⟨ua3, rfl, rfl⟩
                refine Wc.exit ?_
                exact ⟨_, Nat.lt_succ_self _, _, _, rfl, h389⟩
            · refine Wc.cF h395 ?_
              refine Wc.fx [] ⟨[tS 0 ug, (4, (.v (.sl (List.map GSign.c v7)), [(0, .app 174)])), tI 5 u05], [], []⟩ ?_
              refine Wc.skip ?_
              apply Wc.seq
              obtain ⟨u4, h400, h389⟩ := obind h389
              refine Wc.r2 [{}, {}, { r := some (.v (.tup [.agg (GSign.q u4.1), aI u4.2]) []) }] ⟨[tS 0 ug, (4, (.v (.sl (List.map GSign.c v7)), [(0, .app 174)])), tP 6 6, tI 7 u4.2], [bC 6 (GSign.q u4.1)], []⟩ (.cons (cspec_l05Sign h400) .nil) ?_
              apply Wc.seq
              rcases oif h389 with ⟨h401, h389⟩ | ⟨h401, h389⟩
              · obtain ⟨h402, h389⟩ := oguard h389
                refine Wc.r2 [{}, {}, {}, {}, { re := some (.bool true) }] ⟨[tS 0 ug, (4, (.v (.sl (List.map GSign.c v7)), [(0, .app 174)])), tP 6 6, tI 7 u4.2], [bC 6 [aI u4.1.gKind, .str u4.1.gText, aI u4.1.gNum, aI u4.1.gAt, .bool ((bt ug u4.2) == 40)]], []⟩ (.cons (congrArg AV.bool h401) (.cons h402 .nil)) ?_
                apply Wc.seq
                obtain ⟨h403, h389⟩ := oguard h389
                refine Wc.r2 [{ tk := [4] }, {}, { c := some (List.map GSign.c [GSign.mk u4.1.gKind u4.1.gText u4.1.gNum u4.1.gAt ((bt ug u4.2) == 40)]) }, { c := some (List.map GSign.c (v7 ++ [GSign.mk u4.1.gKind u4.1.gText u4.1.gNum u4.1.gAt ((bt ug u4.2) == 40)])), tk := [56] }, { tk := [59] }] ⟨[tS 0 ug, (4, (.v (.sl (List.map GSign.c (v7 ++ [GSign.mk u4.1.gKind u4.1.gText u4.1.gNum u4.1.gAt ((bt ug u4.2) == 40)]))), [(0, .app 174)])), tI 7 u4.2], [], []⟩ (.cons (cl_cons (c := GSign.c) (x := GSign.mk u4.1.gKind u4.1.gText u4.1.gNum u4.1.gAt ((bt ug u4.2) == 40)) (GSign.c_eq (GSign.mk u4.1.gKind u4.1.gText u4.1.gNum u4.1.gAt ((bt ug u4.2) == 40))) (cl_nil GSign.c)) (.cons (app_re2 GSign.c v7 [GSign.mk u4.1.gKind u4.1.gText u4.1.gNum u4.1.gAt ((bt ug u4.2) == 40)]) (.cons (app_leaf (c := GSign.c) (ys := [GSign.mk u4.1.gKind u4.1.gText u4.1.gNum u4.1.gAt ((bt ug u4.2) == 40)]) GSign.c_leaf) (.cons (app_obl2 (c := GSign.c) (xs := v7) (ys := [GSign.mk u4.1.gKind u4.1.gText u4.1.gNum u4.1.gAt ((bt ug u4.2) == 40)]) GSign.c_len h403) .nil)))) ?_
                refine Wc.r0 ⟨[tS 0 ug, (4, (.v (.sl (List.map GSign.c (v7 ++ [GSign.mk u4.1.gKind u4.1.gText u4.1.gNum u4.1.gAt ((bt ug u4.2) == 40)]))), [(0, .app 174)])), tI 5 u4.2], [], []⟩ ?_
                exact ⟨_, Nat.lt_succ_self _, _, _, rfl, h389⟩
              · refine Wc.r2 [{}, {}, {}, {}, { re := some (.bool false) }] ⟨[tS 0 ug, (4, (.v (.sl (List.map GSign.c v7)), [(0, .app 174)])), tP 6 6, tI 7 u4.2], [bC 6 [aI u4.1.gKind, .str u4.1.gText, aI u4.1.gNum, aI u4.1.gAt, .bool false]], []⟩ (.cons (congrArg AV.bool h401) .nil) ?_
                apply Wc.seq
                obtain ⟨h404, h389⟩ := oguard h389
                refine Wc.r2 [{ tk := [4] }, {}, { c := some (List.map GSign.c [GSign.mk u4.1.gKind u4.1.gText u4.1.gNum u4.1.gAt false]) }, { c := some (List.map GSign.c (v7 ++ [GSign.mk u4.1.gKind u4.1.gText u4.1.gNum u4.1.gAt false])), tk := [56] }, { tk := [59] }] ⟨[tS 0 ug, (4, (.v (.sl (List.map GSign.c (v7 ++ [GSign.mk u4.1.gKind u4.1.gText u4.1.gNum u4.1.gAt false]))), [(0, .app 174)])), tI 7 u4.2], [], []⟩ (.cons (cl_cons (c := GSign.c) (x := GSign.mk u4.1.gKind u4.1.gText u4.1.gNum u4.1.gAt false) (GSign.c_eq (GSign.mk u4.1.gKind u4.1.gText u4.1.gNum u4.1.gAt false)) (cl_nil GSign.c)) (.cons (app_re2 GSign.c v7 [GSign.mk u4.1.gKind u4.1.gText u4.1.gNum u4.1.gAt false]) (.cons (app_leaf (c := GSign.c) (ys := [GSign.mk u4.1.gKind u4.1.gText u4.1.gNum u4.1.gAt false]) GSign.c_leaf) (.cons (app_obl2 (c := GSign.c) (xs := v7) (ys := [GSign.mk u4.1.gKind u4.1.gText u4.1.gNum u4.1.gAt false]) GSign.c_len h404) .nil)))) ?_
                refine Wc.r0 ⟨[tS 0 ug, (4, (.v (.sl (List.map GSign.c (v7 ++ [GSign.mk u4.1.gKind u4.1.gText u4.1.gNum u4.1.gAt false]))), [(0, .app 174)])), tI 5 u4.2], [], []⟩ ?_
                exact ⟨_, Nat.lt_succ_self _, _, _, rfl, h389⟩
        · refine Wc.cF h390 ?_
          refine Wc.fx [] ⟨[(4, (.v (.sl (List.map GSign.c v7)), [(0, .app 174)]))], [], []⟩ ?_
          refine Wc.exit ?_
          obtain rfl := Option.some.inj h389
          exact ⟨_, rfl, rfl⟩
    · rintro st ⟨u7y, rfl, rfl⟩
      apply Wc.seq
      refine Wc.r1 [{ tk := [4] }, { tk := [61] }] ⟨[(2, (.v (.sl (List.map GSign.c u7y)), [(0, .app 174)])), tB 3 true], [], []⟩ ?_
      obtain rfl := Option.some.inj h; exact Wc.ret dn

def pspec_l06Behind_L2 (k : Nat) (vo : List GSign) : Nat → Int → Option (Out Int Unit)
  | 0, _ => none
  | m + 1, u2q =>
    if (decide (u2q < (vo.length : Int))) = true then
      (at' vo (wr.i64 ((wr.i64 (u2q + 1)) - 1))).bind fun u7z =>
      if (u7z.gKind == 5) = true then
        some (.ret (wr.i64 (u2q + 1)))
      else
        pspec_l06Behind_L2 k vo m (wr.i64 (u2q + 1))
    else
      some (.done ())
def pspec_l06Behind_J1 (k : Nat) (vo : List GSign) (ua4 : Int) : Option Int :=
  (pspec_l06Behind_L2 k vo k ua4).bind fun out2 => match out2 with
  | .ret r => some r
  | .done () =>
    some (vo.length : Int)
def pspec_l06Behind (k : Nat) (vo : List GSign) (u5a : Int) : Option Int :=
  if (decide (u5a < 0)) = true then
    pspec_l06Behind_J1 k vo 0
  else
    pspec_l06Behind_J1 k vo u5a
theorem cspec_l06Behind {k : Nat} {vo : List GSign} {u5a : Int} {r : Int} (h : pspec_l06Behind k vo u5a = some r) : FnO Try.prog 163 [.v (.sl (List.map GSign.c vo)) [], .v (aI u5a) []] (.v (aI r) []) [] := by
  refine FnO.o2 Try.func163 (rfl : Try.f163.body = some _) ?_
  intro w0 X0 Fin pv0 pb
  unfold pspec_l06Behind at h
  apply Wc.seq
  refine Wc.r0 ⟨[tV 0 (.sl (List.map GSign.c vo)), tI 1 u5a], [], []⟩ ?_
  refine Wc.seqJ (fun st => ∃ (ua4 : Int), st = ⟨[tV 0 (.sl (List.map GSign.c vo)), tI 1 ua4], [], []⟩ ∧ pspec_l06Behind_J1 k vo ua4 = some r) ?_ ?_
  · apply Wc.seq
    refine Wc.r0 ⟨[tV 0 (.sl (List.map GSign.c vo)), tI 1 u5a, tB 6 (decide (u5a < 0))], [], []⟩ ?_
    rcases oif h with ⟨h409, h⟩ | ⟨h409, h⟩
    · refine Wc.cT h409 ?_
      refine Wc.r0 ⟨[tV 0 (.sl (List.map GSign.c vo)), tI 1 0], [], []⟩ ?_
      exact ⟨_, rfl, h⟩
    · refine Wc.cF h409 ?_
      refine Wc.fx [] ⟨[tV 0 (.sl (List.map GSign.c vo)), tI 1 u5a], [], []⟩ ?_
      refine Wc.skip ?_
      exact ⟨_, rfl, h⟩
  · rintro st ⟨ua4, rfl, h⟩
    obtain ⟨out2, h405, h⟩ := obind h
    refine Wc.seqJ (fun st => out2 = .done () ∧ st = ⟨[tV 0 (.sl (List.map GSign.c vo))], [], []⟩) ?_ ?_
    · refine Wc.block ?_
      refine Wc.loop (fun m st => ∃ (u2q : Int), st = ⟨[tV 0 (.sl (List.map GSign.c vo)), tI 1 u2q], [], []⟩ ∧ pspec_l06Behind_L2 k vo m u2q = some out2) ?_ k ⟨_, rfl, h405⟩
      rintro m st ⟨u2q, rfl, h405⟩
      cases m with
      | zero => exact (onone h405).elim
      | succ m =>
        apply Wc.seq
        apply Wc.seq
        refine Wc.r2 [{}, {}, { v := some (aI (vo.length : Int)) }] ⟨[tV 0 (.sl (List.map GSign.c vo)), tI 1 u2q, tB 10 (decide (u2q < (vo.length : Int)))], [], []⟩ (.cons (len_obl GSign.c vo) .nil) ?_
        rcases oif h405 with ⟨h406, h405⟩ | ⟨h406, h405⟩
        · refine Wc.cT h406 ?_
          refine Wc.fx [] ⟨[tV 0 (.sl (List.map GSign.c vo)), tI 1 u2q], [], []⟩ ?_
          refine Wc.skip ?_
          refine Wc.block ?_
          apply Wc.seq
          refine Wc.r0 ⟨[tV 0 (.sl (List.map GSign.c vo)), tI 1 (wr.i64 (u2q + 1))], [], []⟩ ?_
          apply Wc.seq
          obtain ⟨u7z, h407, h405⟩ := obind h405
          refine Wc.r2 [{}, {}, {}, { v := some (.vptr (GSign.q u7z)) }] ⟨[tV 0 (.sl (List.map GSign.c vo)), tI 1 (wr.i64 (u2q + 1)), tB 19 (u7z.gKind == 5)], [], []⟩ (.cons (at_obl (c := GSign.c) (GSign.c_eq u7z) GSign.c_len h407) (.cons (len_ok 1 (GSign.q u7z)) .nil)) ?_
          rcases oif h405 with ⟨h408, h405⟩ | ⟨h408, h405⟩
          · refine Wc.cT h408 ?_
            apply Wc.seq
            refine Wc.r0 ⟨[tI 4 (wr.i64 (u2q + 1))], [], []⟩ ?_
            refine Wc.ret ?_
            obtain rfl := Option.some.inj h405
            obtain rfl := Option.some.inj h
            exact ⟨.inl rfl, by kernel_rfl, by kernel_rfl⟩
          · refine Wc.cF h408 ?_
            refine Wc.fx [] ⟨[tV 0 (.sl (List.map GSign.c vo)), tI 1 (wr.i64 (u2q + 1))], [], []⟩ ?_
            refine Wc.skip ?_
            exact ⟨_, Nat.lt_succ_self _, _, rfl, h405⟩
        · refine Wc.cF h406 ?_
          refine Wc.fx [] ⟨[tV 0 (.sl (List.map GSign.c vo))], [], []⟩ ?_
          refine Wc.exit ?_
          obtain rfl := Option.some.inj h405
          exact ⟨rfl, rfl⟩
    · rintro st ⟨rfl, rfl⟩
      apply Wc.seq
      refine Wc.r2 [{}, { v := some (aI (vo.length : Int)) }] ⟨[tI 4 (vo.length : Int)], [], []⟩ (.cons (len_obl GSign.c vo) .nil) ?_
      obtain rfl := Option.some.inj h; exact Wc.ret dn

def pspec_l06Read_is (k : Nat) (ul : GL06Read) (ua5 : Int) (u6k : ByteArray) : Option (GL06Read × Bool) :=
  if (!ul.gBad) = true then
    if (decide (ul.gAt < (ul.gList.length : Int))) = true then
      (at' ul.gList ul.gAt).bind fun u4c =>
      if (u4c.gKind == ua5) = true then
        if (sEq u6k (bs [])) = true then
          some (ul, true)
        else
          (at' ul.gList ul.gAt).bind fun u5b =>
          some (ul, sEq u5b.gText u6k)
      else
        some (ul, false)
    else
      some (ul, false)
  else
    some (ul, false)
theorem cspec_l06Read_is {k : Nat} {ul : GL06Read} {ua5 : Int} {u6k : ByteArray} {r : GL06Read × Bool} (h : pspec_l06Read_is k ul ua5 u6k = some r) : FnO Try.prog 165 [.p (GL06Read.k2 ul) (GL06Read.h4_9f ul), .v (aI ua5) [], .v (.str u6k) []] (.v (.bool r.2) []) [(0, .p (GL06Read.k2 r.1) (GL06Read.h4_9f r.1))] := by
  refine FnO.o2 Try.func165 (rfl : Try.f165.body = some _) ?_
  intro w0 X0 Fin pv0 pb
  unfold pspec_l06Read_is at h
  apply Wc.seq
  refine Wc.r0 ⟨[tP 0 1000000, tI 1 ua5, tS 2 u6k], [(1000000, .cells (GL06Read.k2 ul) (GL06Read.h4_9f ul))], []⟩ ?_
  apply Wc.seq
  rcases oif h with ⟨h410, h⟩ | ⟨h410, h⟩
  · rcases oif h with ⟨h411, h⟩ | ⟨h411, h⟩
    · obtain ⟨u4c, h412, h⟩ := obind h
      rcases oif h with ⟨h413, h⟩ | ⟨h413, h⟩
      · rcases oif h with ⟨h414, h⟩ | ⟨h414, h⟩
        · refine Wc.draw hmix [{}, {}, {}, {}, {}, { re := some (.bool true) }, {}, {}, {}, {}, {}, {}, {}, {}, { v := some (aI (ul.gList.length : Int)) }, {}, {}, { re := some (.bool true) }, {}, {}, {}, {}, {}, {}, {}, {}, { v := some (.vptr (GSign.q u4c)) }, {}, {}, {}, {}, {}, { re := some (.bool true) }, {}, {}, { re := some (.bool true) }] [] [6] [1000000] [] ⟨[tB 6 true], [(1000000, .cells (GL06Read.k2 ul) (GL06Read.h4_9f ul))], []⟩ _ (by kernel_rfl) (fun X => by kernel_rfl) (.cons (congrArg AV.bool h410) (.cons (len_obl GSign.c ul.gList) (.cons (congrArg AV.bool h411) (.cons (at_obl (c := GSign.c) (GSign.c_eq u4c) GSign.c_len h412) (.cons (len_ok 1 (GSign.q u4c)) (.cons (congrArg AV.bool h413) (.cons (congrArg AV.bool h414) .nil))))))) ?_
          obtain rfl := Option.some.inj h; exact Wc.ret dn
        · obtain ⟨u5b, h415, h⟩ := obind h
          refine Wc.draw hmix [{}, {}, {}, {}, {}, { re := some (.bool true) }, {}, {}, {}, {}, {}, {}, {}, {}, { v := some (aI (ul.gList.length : Int)) }, {}, {}, { re := some (.bool true) }, {}, {}, {}, {}, {}, {}, {}, {}, { v := some (.vptr (GSign.q u4c)) }, {}, {}, {}, {}, {}, { re := some (.bool true) }, {}, {}, { re := some (.bool false) }, {}, {}, {}, {}, {}, {}, {}, {}, { v := some (.vptr (GSign.q u5b)) }] [] [6] [1000000] [] ⟨[tB 6 (sEq u5b.gText u6k)], [(1000000, .cells (GL06Read.k2 ul) (GL06Read.h4_9f ul))], []⟩ _ (by kernel_rfl) (fun X => by kernel_rfl) (.cons (congrArg AV.bool h410) (.cons (len_obl GSign.c ul.gList) (.cons (congrArg AV.bool h411) (.cons (at_obl (c := GSign.c) (GSign.c_eq u4c) GSign.c_len h412) (.cons (len_ok 1 (GSign.q u4c)) (.cons (congrArg AV.bool h413) (.cons (congrArg AV.bool h414) (.cons (at_obl (c := GSign.c) (GSign.c_eq u5b) GSign.c_len h415) (.cons (len_ok 1 [.str u5b.gText, aI u5b.gNum, aI u5b.gAt, .bool u5b.gNear]) .nil))))))))) ?_
          obtain rfl := Option.some.inj h; exact Wc.ret dn
      · refine Wc.draw hmix [{}, {}, {}, {}, {}, { re := some (.bool true) }, {}, {}, {}, {}, {}, {}, {}, {}, { v := some (aI (ul.gList.length : Int)) }, {}, {}, { re := some (.bool true) }, {}, {}, {}, {}, {}, {}, {}, {}, { v := some (.vptr (GSign.q u4c)) }, {}, {}, {}, {}, {}, { re := some (.bool false) }] [] [6] [1000000] [] ⟨[tB 6 false], [(1000000, .cells (GL06Read.k2 ul) (GL06Read.h4_9f ul))], []⟩ _ (by kernel_rfl) (fun X => by kernel_rfl) (.cons (congrArg AV.bool h410) (.cons (len_obl GSign.c ul.gList) (.cons (congrArg AV.bool h411) (.cons (at_obl (c := GSign.c) (GSign.c_eq u4c) GSign.c_len h412) (.cons (len_ok 1 (GSign.q u4c)) (.cons (congrArg AV.bool h413) .nil)))))) ?_
        obtain rfl := Option.some.inj h; exact Wc.ret dn
    · refine Wc.draw hmix [{}, {}, {}, {}, {}, { re := some (.bool true) }, {}, {}, {}, {}, {}, {}, {}, {}, { v := some (aI (ul.gList.length : Int)) }, {}, {}, { re := some (.bool false) }] [] [6] [1000000] [] ⟨[tB 6 false], [(1000000, .cells (GL06Read.k2 ul) (GL06Read.h4_9f ul))], []⟩ _ (by kernel_rfl) (fun X => by kernel_rfl) (.cons (congrArg AV.bool h410) (.cons (len_obl GSign.c ul.gList) (.cons (congrArg AV.bool h411) .nil))) ?_
      obtain rfl := Option.some.inj h; exact Wc.ret dn
  · refine Wc.draw hmix [{}, {}, {}, {}, {}, { re := some (.bool false) }] [] [6] [1000000] [] ⟨[tB 6 false], [(1000000, .cells (GL06Read.k2 ul) (GL06Read.h4_9f ul))], []⟩ _ (by kernel_rfl) (fun X => by kernel_rfl) (.cons (congrArg AV.bool h410) .nil) ?_
    obtain rfl := Option.some.inj h; exact Wc.ret dn

def pspec_InfixOf_J3 (k : Nat) (u7 : ByteArray) (ua6 : Bool) : Option (GOp × Bool) :=
  if ua6 = true then
    some (GOp.mk u7 500 500 499, true)
  else
    if (sEq u7 (bs [42])) = true then
      if (sEq u7 (bs [42])) = true then
        some (GOp.mk u7 400 400 399, true)
      else
        some (GOp.mk (bs []) 0 0 0, false)
    else
      if (sEq u7 (bs [47, 47])) = true then
        some (GOp.mk u7 400 400 399, true)
      else
        some (GOp.mk (bs []) 0 0 0, false)
def pspec_InfixOf_J2 (k : Nat) (u7 : ByteArray) (ua7 : Bool) : Option (GOp × Bool) :=
  if ua7 = true then
    some (GOp.mk u7 700 699 699, true)
  else
    if (sEq u7 (bs [43])) = true then
      pspec_InfixOf_J3 k u7 (sEq u7 (bs [43]))
    else
      pspec_InfixOf_J3 k u7 (sEq u7 (bs [45]))
def pspec_InfixOf_J1 (k : Nat) (u7 : ByteArray) (ua8 : Bool) : Option (GOp × Bool) :=
  if ua8 = true then
    some (GOp.mk u7 1200 1199 1199, true)
  else
    if (sEq u7 (bs [59])) = true then
      some (GOp.mk u7 1100 1099 1100, true)
    else
      if (sEq u7 (bs [45, 62])) = true then
        some (GOp.mk u7 1050 1049 1050, true)
      else
        if (sEq u7 (bs [44])) = true then
          some (GOp.mk u7 1000 999 1000, true)
        else
          if (sEq u7 (bs [61])) = true then
            pspec_InfixOf_J2 k u7 (sEq u7 (bs [61]))
          else
            if (sEq u7 (bs [92, 61])) = true then
              pspec_InfixOf_J2 k u7 (sEq u7 (bs [92, 61]))
            else
              if (sEq u7 (bs [61, 61])) = true then
                pspec_InfixOf_J2 k u7 (sEq u7 (bs [61, 61]))
              else
                if (sEq u7 (bs [105, 115])) = true then
                  pspec_InfixOf_J2 k u7 (sEq u7 (bs [105, 115]))
                else
                  if (sEq u7 (bs [60])) = true then
                    pspec_InfixOf_J2 k u7 (sEq u7 (bs [60]))
                  else
                    pspec_InfixOf_J2 k u7 (sEq u7 (bs [61, 58, 61]))
def pspec_InfixOf (k : Nat) (u7 : ByteArray) : Option (GOp × Bool) :=
  if (sEq u7 (bs [58, 45])) = true then
    pspec_InfixOf_J1 k u7 (sEq u7 (bs [58, 45]))
  else
    pspec_InfixOf_J1 k u7 (sEq u7 (bs [45, 45, 62]))
set_option maxHeartbeats 4000000 in
theorem cspec_InfixOf {k : Nat} {u7 : ByteArray} {r : GOp × Bool} (h : pspec_InfixOf k u7 = some r) : FnO Try.prog 192 [.v (.str u7) []] (.v (.tup [.agg (GOp.q r.1), .bool r.2]) []) [] := by
  refine FnO.o2 Try.func192 (rfl : Try.f192.body = some _) ?_
  intro w0 X0 Fin pv0 pb
  unfold pspec_InfixOf at h
  apply Wc.seq
  refine Wc.r0 ⟨[tS 0 u7, tP 2 2], [bC 2 GOp.z], []⟩ ?_
  apply Wc.seq
  apply Wc.seq
  refine Wc.r0 ⟨[tS 0 u7, tP 2 2, tS 4 u7], [bC 2 GOp.z], []⟩ ?_
  refine Wc.block ?_
  refine Wc.seqJ (fun st => ∃ (ua8 : Bool), st = ⟨[tS 0 u7, tP 2 2, tS 4 u7, tB 5 ua8], [bC 2 GOp.z], []⟩ ∧ pspec_InfixOf_J1 k u7 ua8 = some r) ?_ ?_
  · apply Wc.seq
    refine Wc.r0 ⟨[tS 0 u7, tP 2 2, tS 4 u7, tB 5 (sEq u7 (bs [58, 45]))], [bC 2 GOp.z], []⟩ ?_
    rcases oif h with ⟨h431, h⟩ | ⟨h431, h⟩
    · refine Wc.cT h431 ?_
      refine Wc.skip ?_
      exact ⟨_, rfl, h⟩
    · refine Wc.cF h431 ?_
      refine Wc.r0 ⟨[tS 0 u7, tP 2 2, tS 4 u7, tB 5 (sEq u7 (bs [45, 45, 62]))], [bC 2 GOp.z], []⟩ ?_
      exact ⟨_, rfl, h⟩
  · rintro st ⟨ua8, rfl, h⟩
    rcases oif h with ⟨h416, h⟩ | ⟨h416, h⟩
    · refine Wc.cT h416 ?_
      apply Wc.seq
      refine Wc.r0 ⟨[tP 2 2, tB 3 true], [bC 2 [.str u7, aI 1200, aI 1199, aI 1199]], []⟩ ?_
      obtain rfl := Option.some.inj h; exact Wc.ret dn
    · refine Wc.cF h416 ?_
      apply Wc.seq
      refine Wc.r0 ⟨[tS 0 u7, tP 2 2, tS 4 u7, tB 10 (sEq u7 (bs [59]))], [bC 2 GOp.z], []⟩ ?_
      rcases oif h with ⟨h417, h⟩ | ⟨h417, h⟩
      · refine Wc.cT h417 ?_
        apply Wc.seq
        refine Wc.r0 ⟨[tP 2 2, tB 3 true], [bC 2 [.str u7, aI 1100, aI 1099, aI 1100]], []⟩ ?_
        obtain rfl := Option.some.inj h; exact Wc.ret dn
      · refine Wc.cF h417 ?_
        apply Wc.seq
        refine Wc.r0 ⟨[tS 0 u7, tP 2 2, tS 4 u7, tB 14 (sEq u7 (bs [45, 62]))], [bC 2 GOp.z], []⟩ ?_
        rcases oif h with ⟨h418, h⟩ | ⟨h418, h⟩
        · refine Wc.cT h418 ?_
          apply Wc.seq
          refine Wc.r0 ⟨[tP 2 2, tB 3 true], [bC 2 [.str u7, aI 1050, aI 1049, aI 1050]], []⟩ ?_
          obtain rfl := Option.some.inj h; exact Wc.ret dn
        · refine Wc.cF h418 ?_
          apply Wc.seq
          refine Wc.r0 ⟨[tS 0 u7, tP 2 2, tS 4 u7, tB 18 (sEq u7 (bs [44]))], [bC 2 GOp.z], []⟩ ?_
          rcases oif h with ⟨h419, h⟩ | ⟨h419, h⟩
          · refine Wc.cT h419 ?_
            apply Wc.seq
            refine Wc.r0 ⟨[tP 2 2, tB 3 true], [bC 2 [.str u7, aI 1000, aI 999, aI 1000]], []⟩ ?_
            obtain rfl := Option.some.inj h; exact Wc.ret dn
          · refine Wc.cF h419 ?_
            refine Wc.seqJ (fun st => ∃ (ua7 : Bool), st = ⟨[tS 0 u7, tP 2 2, tS 4 u7, tB 22 ua7], [bC 2 GOp.z], []⟩ ∧ pspec_InfixOf_J2 k u7 ua7 = some r) ?_ ?_
            · apply Wc.seq
              refine Wc.r0 ⟨[tS 0 u7, tP 2 2, tS 4 u7, tB 22 (sEq u7 (bs [61]))], [bC 2 GOp.z], []⟩ ?_
              rcases oif h with ⟨h426, h⟩ | ⟨h426, h⟩
              · refine Wc.cT h426 ?_
                refine Wc.skip ?_
                exact ⟨_, rfl, h⟩
              · refine Wc.cF h426 ?_
                apply Wc.seq
                refine Wc.r0 ⟨[tS 0 u7, tP 2 2, tS 4 u7, tB 22 (sEq u7 (bs [92, 61]))], [bC 2 GOp.z], []⟩ ?_
                rcases oif h with ⟨h427, h⟩ | ⟨h427, h⟩
                · refine Wc.cT h427 ?_
                  refine Wc.skip ?_
                  exact ⟨_, rfl, h⟩
                · refine Wc.cF h427 ?_
                  apply Wc.seq
                  refine Wc.r0 ⟨[tS 0 u7, tP 2 2, tS 4 u7, tB 22 (sEq u7 (bs [61, 61]))], [bC 2 GOp.z], []⟩ ?_
                  rcases oif h with ⟨h428, h⟩ | ⟨h428, h⟩
                  · refine Wc.cT h428 ?_
                    refine Wc.skip ?_
                    exact ⟨_, rfl, h⟩
                  · refine Wc.cF h428 ?_
                    apply Wc.seq
                    refine Wc.r0 ⟨[tS 0 u7, tP 2 2, tS 4 u7, tB 22 (sEq u7 (bs [105, 115]))], [bC 2 GOp.z], []⟩ ?_
                    rcases oif h with ⟨h429, h⟩ | ⟨h429, h⟩
                    · refine Wc.cT h429 ?_
                      refine Wc.skip ?_
                      exact ⟨_, rfl, h⟩
                    · refine Wc.cF h429 ?_
                      apply Wc.seq
                      refine Wc.r0 ⟨[tS 0 u7, tP 2 2, tS 4 u7, tB 22 (sEq u7 (bs [60]))], [bC 2 GOp.z], []⟩ ?_
                      rcases oif h with ⟨h430, h⟩ | ⟨h430, h⟩
                      · refine Wc.cT h430 ?_
                        refine Wc.skip ?_
                        exact ⟨_, rfl, h⟩
                      · refine Wc.cF h430 ?_
                        refine Wc.r0 ⟨[tS 0 u7, tP 2 2, tS 4 u7, tB 22 (sEq u7 (bs [61, 58, 61]))], [bC 2 GOp.z], []⟩ ?_
                        exact ⟨_, rfl, h⟩
            · rintro st ⟨ua7, rfl, h⟩
              rcases oif h with ⟨h420, h⟩ | ⟨h420, h⟩
              · refine Wc.cT h420 ?_
                apply Wc.seq
                refine Wc.r0 ⟨[tP 2 2, tB 3 true], [bC 2 [.str u7, aI 700, aI 699, aI 699]], []⟩ ?_
                obtain rfl := Option.some.inj h; exact Wc.ret dn
              · refine Wc.cF h420 ?_
                refine Wc.seqJ (fun st => ∃ (ua6 : Bool), st = ⟨[tS 0 u7, tP 2 2, tS 4 u7, tB 31 ua6], [bC 2 GOp.z], []⟩ ∧ pspec_InfixOf_J3 k u7 ua6 = some r) ?_ ?_
                · apply Wc.seq
                  refine Wc.r0 ⟨[tS 0 u7, tP 2 2, tS 4 u7, tB 31 (sEq u7 (bs [43]))], [bC 2 GOp.z], []⟩ ?_
                  rcases oif h with ⟨h425, h⟩ | ⟨h425, h⟩
                  · refine Wc.cT h425 ?_
                    refine Wc.skip ?_
                    exact ⟨_, rfl, h⟩
                  · refine Wc.cF h425 ?_
                    refine Wc.r0 ⟨[tS 0 u7, tP 2 2, tS 4 u7, tB 31 (sEq u7 (bs [45]))], [bC 2 GOp.z], []⟩ ?_
                    exact ⟨_, rfl, h⟩
                · rintro st ⟨ua6, rfl, h⟩
                  rcases oif h with ⟨h421, h⟩ | ⟨h421, h⟩
                  · refine Wc.cT h421 ?_
                    apply Wc.seq
                    refine Wc.r0 ⟨[tP 2 2, tB 3 true], [bC 2 [.str u7, aI 500, aI 500, aI 499]], []⟩ ?_
                    obtain rfl := Option.some.inj h; exact Wc.ret dn
                  · refine Wc.cF h421 ?_
                    apply Wc.seq
                    apply Wc.seq
                    refine Wc.r0 ⟨[tS 0 u7, tP 2 2, tS 4 u7, tB 36 (sEq u7 (bs [42]))], [bC 2 GOp.z], []⟩ ?_
                    rcases oif h with ⟨h422, h⟩ | ⟨h422, h⟩
                    · refine Wc.cT h422 ?_
                      refine Wc.fx [] ⟨[tS 0 u7, tP 2 2, tB 36 (sEq u7 (bs [42]))], [bC 2 GOp.z], []⟩ ?_
                      refine Wc.skip ?_
                      rcases oif h with ⟨h423, h⟩ | ⟨h423, h⟩
                      · refine Wc.cT h423 ?_
                        apply Wc.seq
                        refine Wc.r0 ⟨[tP 2 2, tB 3 true], [bC 2 [.str u7, aI 400, aI 400, aI 399]], []⟩ ?_
                        obtain rfl := Option.some.inj h; exact Wc.ret dn
                      · refine Wc.cF h423 ?_
                        refine Wc.fx [] ⟨[tP 2 2], [bC 2 GOp.z], []⟩ ?_
                        refine Wc.skip ?_
                        apply Wc.seq
                        refine Wc.r0 ⟨[tP 2 2, tB 3 false], [bC 2 GOp.z], []⟩ ?_
                        obtain rfl := Option.some.inj h; exact Wc.ret dn
                    · refine Wc.cF h422 ?_
                      refine Wc.r0 ⟨[tS 0 u7, tP 2 2, tB 36 (sEq u7 (bs [47, 47]))], [bC 2 GOp.z], []⟩ ?_
                      rcases oif h with ⟨h424, h⟩ | ⟨h424, h⟩
                      · refine Wc.cT h424 ?_
                        apply Wc.seq
                        refine Wc.r0 ⟨[tP 2 2, tB 3 true], [bC 2 [.str u7, aI 400, aI 400, aI 399]], []⟩ ?_
                        obtain rfl := Option.some.inj h; exact Wc.ret dn
                      · refine Wc.cF h424 ?_
                        refine Wc.fx [] ⟨[tP 2 2], [bC 2 GOp.z], []⟩ ?_
                        refine Wc.skip ?_
                        apply Wc.seq
                        refine Wc.r0 ⟨[tP 2 2, tB 3 false], [bC 2 GOp.z], []⟩ ?_
                        obtain rfl := Option.some.inj h; exact Wc.ret dn

def pspec_l06Read_mark (k : Nat) (u3g : GL06Read) (ua9 : ByteArray) : Option (GL06Read × Bool) :=
  (pspec_l06Read_is k u3g 4 ua9).bind fun vb =>
  if vb.2 = true then
    some (GL06Read.mk vb.1.gList (wr.i64 (vb.1.gAt + 1)) vb.1.gBad vb.1.gDeep vb.1.gNames, true)
  else
    some (vb.1, false)
theorem cspec_l06Read_mark {k : Nat} {u3g : GL06Read} {ua9 : ByteArray} {r : GL06Read × Bool} (h : pspec_l06Read_mark k u3g ua9 = some r) : FnO Try.prog 188 [.p (GL06Read.k2 u3g) (GL06Read.h4_9f u3g), .v (.str ua9) []] (.v (.bool r.2) []) [(0, .p (GL06Read.k2 r.1) (GL06Read.h4_9f r.1))] := by
  refine FnO.o2 Try.func188 (rfl : Try.f188.body = some _) ?_
  intro w0 X0 Fin pv0 pb
  unfold pspec_l06Read_mark at h
  apply Wc.seq
  refine Wc.r0 ⟨[tP 0 1000000, tS 1 ua9], [(1000000, .cells (GL06Read.k2 u3g) (GL06Read.h4_9f u3g))], []⟩ ?_
  apply Wc.seq
  apply Wc.seq
  obtain ⟨vb, h432, h⟩ := obind h
  refine Wc.r2 [{}, {}, { r := some (.v (.bool vb.2) []), outs := [(0, .p (GL06Read.k2 vb.1) (GL06Read.h4_9f vb.1))] }] ⟨[tP 0 1000000, tB 7 vb.2], [(1000000, .cells (GL06Read.k2 vb.1) (GL06Read.h4_9f vb.1))], []⟩ (.cons (cspec_l06Read_is h432) .nil) ?_
  rcases oif h with ⟨h433, h⟩ | ⟨h433, h⟩
  · refine Wc.cT h433 ?_
    apply Wc.seq
    refine Wc.r0 ⟨[], [(1000000, .cells [.sl (List.map GSign.c vb.1.gList), aI (wr.i64 (vb.1.gAt + 1)), .bool vb.1.gBad, aI vb.1.gDeep, .slx] (GL06Read.h4_9f vb.1))], []⟩ ?_
    apply Wc.seq
    refine Wc.r0 ⟨[tB 4 true], [(1000000, .cells [.sl (List.map GSign.c vb.1.gList), aI (wr.i64 (vb.1.gAt + 1)), .bool vb.1.gBad, aI vb.1.gDeep, .slx] (GL06Read.h4_9f vb.1))], []⟩ ?_
    obtain rfl := Option.some.inj h; exact Wc.ret dn
  · refine Wc.cF h433 ?_
    refine Wc.fx [] ⟨[], [(1000000, .cells (GL06Read.k2 vb.1) (GL06Read.h4_9f vb.1))], []⟩ ?_
    refine Wc.skip ?_
    apply Wc.seq
    refine Wc.r0 ⟨[tB 4 false], [(1000000, .cells (GL06Read.k2 vb.1) (GL06Read.h4_9f vb.1))], []⟩ ?_
    obtain rfl := Option.some.inj h; exact Wc.ret dn

def pspec_l06Read_wants (k : Nat) (u5y : GL06Read) (uct : ByteArray) : Option GL06Read :=
  (pspec_l06Read_mark k u5y uct).bind fun z9 =>
  if (!z9.2) = true then
    some (GL06Read.mk z9.1.gList z9.1.gAt true z9.1.gDeep z9.1.gNames)
  else
    some z9.1
theorem cspec_l06Read_wants {k : Nat} {u5y : GL06Read} {uct : ByteArray} {r : GL06Read} (h : pspec_l06Read_wants k u5y uct = some r) : FnO Try.prog 199 [.p (GL06Read.k2 u5y) (GL06Read.h4_9f u5y), .v (.str uct) []] (.v (.tup []) []) [(0, .p (GL06Read.k2 r) (GL06Read.h4_9f r))] := by
  refine FnO.o2 Try.func199 (rfl : Try.f199.body = some _) ?_
  intro w0 X0 Fin pv0 pb
  unfold pspec_l06Read_wants at h
  apply Wc.seq
  obtain ⟨z9, h434, h⟩ := obind h
  refine Wc.r2 [{}, {}, { r := some (.v (.bool z9.2) []), outs := [(0, .p (GL06Read.k2 z9.1) (GL06Read.h4_9f z9.1))] }] ⟨[tP 0 1000000, tB 7 (!z9.2)], [(1000000, .cells (GL06Read.k2 z9.1) (GL06Read.h4_9f z9.1))], []⟩ (.cons (cspec_l06Read_mark h434) .nil) ?_
  rcases oif h with ⟨h435, h⟩ | ⟨h435, h⟩
  · refine Wc.cT h435 ?_
    refine Wc.r0 ⟨[], [(1000000, .cells [.sl (List.map GSign.c z9.1.gList), aI z9.1.gAt, .bool true, aI z9.1.gDeep, .slx] (GL06Read.h4_9f z9.1))], []⟩ ?_
    obtain rfl := Option.some.inj h
    exact ⟨(by first | exact .inl rfl | exact .inr rfl), by kernel_rfl, by kernel_rfl⟩
  · refine Wc.cF h435 ?_
    refine Wc.fx [] ⟨[], [(1000000, .cells (GL06Read.k2 z9.1) (GL06Read.h4_9f z9.1))], []⟩ ?_
    refine Wc.skip ?_
    obtain rfl := Option.some.inj h
    exact ⟨(by first | exact .inl rfl | exact .inr rfl), by kernel_rfl, by kernel_rfl⟩

def pspec_l06Read_near (k : Nat) (v4 : GL06Read) : Option (GL06Read × Bool) :=
  if (decide ((wr.i64 (v4.gAt + 1)) < (v4.gList.length : Int))) = true then
    (at' v4.gList (wr.i64 (v4.gAt + 1))).bind fun u5z =>
    if (u5z.gKind == 3) = true then
      (at' v4.gList (wr.i64 (v4.gAt + 1))).bind fun u6l =>
      (at' v4.gList v4.gAt).bind fun u6m =>
      some (v4, (u6l.gAt == (wr.i64 (u6m.gAt + 1))))
    else
      some (v4, false)
  else
    some (v4, false)
theorem cspec_l06Read_near {k : Nat} {v4 : GL06Read} {r : GL06Read × Bool} (h : pspec_l06Read_near k v4 = some r) : FnO Try.prog 197 [.p (GL06Read.k2 v4) (GL06Read.h4_9f v4)] (.v (.bool r.2) []) [(0, .p (GL06Read.k2 r.1) (GL06Read.h4_9f r.1))] := by
  refine FnO.o2 Try.func197 (rfl : Try.f197.body = some _) ?_
  intro w0 X0 Fin pv0 pb
  unfold pspec_l06Read_near at h
  apply Wc.seq
  refine Wc.r0 ⟨[tP 0 1000000], [(1000000, .cells (GL06Read.k2 v4) (GL06Read.h4_9f v4))], []⟩ ?_
  apply Wc.seq
  rcases oif h with ⟨h436, h⟩ | ⟨h436, h⟩
  · obtain ⟨u5z, h437, h⟩ := obind h
    rcases oif h with ⟨h438, h⟩ | ⟨h438, h⟩
    · obtain ⟨u6l, h439, h⟩ := obind h
      obtain ⟨u6m, h440, h⟩ := obind h
      refine Wc.draw hmix [{}, {}, {}, {}, {}, {}, {}, {}, {}, { v := some (aI (v4.gList.length : Int)) }, {}, { re := some (.bool true) }, {}, {}, {}, {}, {}, {}, {}, {}, {}, { v := some (.vptr (GSign.q u5z)) }, {}, {}, {}, {}, { re := some (.bool true) }, {}, {}, {}, {}, {}, {}, {}, {}, {}, { v := some (.vptr (GSign.q u6l)) }, {}, {}, {}, {}, {}, {}, {}, {}, {}, {}, { v := some (.vptr (GSign.q u6m)) }] [] [2] [1000000] [] ⟨[tB 2 (u6l.gAt == (wr.i64 (u6m.gAt + 1)))], [(1000000, .cells (GL06Read.k2 v4) (GL06Read.h4_9f v4))], []⟩ _ (by kernel_rfl) (fun X => by kernel_rfl) (.cons (len_obl GSign.c v4.gList) (.cons (congrArg AV.bool h436) (.cons (at_obl (c := GSign.c) (GSign.c_eq u5z) GSign.c_len h437) (.cons (len_ok 1 (GSign.q u5z)) (.cons (congrArg AV.bool h438) (.cons (at_obl (c := GSign.c) (GSign.c_eq u6l) GSign.c_len h439) (.cons (len_ok 1 [aI u6l.gAt, .bool u6l.gNear]) (.cons (at_obl (c := GSign.c) (GSign.c_eq u6m) GSign.c_len h440) (.cons (len_ok 1 [aI u6m.gAt, .bool u6m.gNear]) .nil))))))))) ?_
      obtain rfl := Option.some.inj h; exact Wc.ret dn
    · refine Wc.draw hmix [{}, {}, {}, {}, {}, {}, {}, {}, {}, { v := some (aI (v4.gList.length : Int)) }, {}, { re := some (.bool true) }, {}, {}, {}, {}, {}, {}, {}, {}, {}, { v := some (.vptr (GSign.q u5z)) }, {}, {}, {}, {}, { re := some (.bool false) }] [] [2] [1000000] [] ⟨[tB 2 false], [(1000000, .cells (GL06Read.k2 v4) (GL06Read.h4_9f v4))], []⟩ _ (by kernel_rfl) (fun X => by kernel_rfl) (.cons (len_obl GSign.c v4.gList) (.cons (congrArg AV.bool h436) (.cons (at_obl (c := GSign.c) (GSign.c_eq u5z) GSign.c_len h437) (.cons (len_ok 1 (GSign.q u5z)) (.cons (congrArg AV.bool h438) .nil))))) ?_
      obtain rfl := Option.some.inj h; exact Wc.ret dn
  · refine Wc.draw hmix [{}, {}, {}, {}, {}, {}, {}, {}, {}, { v := some (aI (v4.gList.length : Int)) }, {}, { re := some (.bool false) }] [] [2] [1000000] [] ⟨[tB 2 false], [(1000000, .cells (GL06Read.k2 v4) (GL06Read.h4_9f v4))], []⟩ _ (by kernel_rfl) (fun X => by kernel_rfl) (.cons (len_obl GSign.c v4.gList) (.cons (congrArg AV.bool h436) .nil)) ?_
    obtain rfl := Option.some.inj h; exact Wc.ret dn

def pspec_PrefixOf (k : Nat) (u08 : ByteArray) : Option (GOp × Bool) :=
  if (sEq u08 (bs [58, 45])) = true then
    some (GOp.mk u08 1200 0 1199, true)
  else
    if (sEq u08 (bs [92, 43])) = true then
      some (GOp.mk u08 900 0 900, true)
    else
      if (sEq u08 (bs [45])) = true then
        some (GOp.mk u08 200 0 200, true)
      else
        some (GOp.mk (bs []) 0 0 0, false)
theorem cspec_PrefixOf {k : Nat} {u08 : ByteArray} {r : GOp × Bool} (h : pspec_PrefixOf k u08 = some r) : FnO Try.prog 198 [.v (.str u08) []] (.v (.tup [.agg (GOp.q r.1), .bool r.2]) []) [] := by
  refine FnO.o2 Try.func198 (rfl : Try.f198.body = some _) ?_
  intro w0 X0 Fin pv0 pb
  unfold pspec_PrefixOf at h
  apply Wc.seq
  refine Wc.r0 ⟨[tS 0 u08, tP 2 2], [bC 2 GOp.z], []⟩ ?_
  apply Wc.seq
  apply Wc.seq
  refine Wc.r0 ⟨[tS 0 u08, tP 2 2, tS 4 u08], [bC 2 GOp.z], []⟩ ?_
  refine Wc.block ?_
  apply Wc.seq
  refine Wc.r0 ⟨[tS 0 u08, tP 2 2, tS 4 u08, tB 5 (sEq u08 (bs [58, 45]))], [bC 2 GOp.z], []⟩ ?_
  rcases oif h with ⟨h441, h⟩ | ⟨h441, h⟩
  · refine Wc.cT h441 ?_
    apply Wc.seq
    refine Wc.r0 ⟨[tP 2 2, tB 3 true], [bC 2 [.str u08, aI 1200, aI 0, aI 1199]], []⟩ ?_
    obtain rfl := Option.some.inj h; exact Wc.ret dn
  · refine Wc.cF h441 ?_
    apply Wc.seq
    refine Wc.r0 ⟨[tS 0 u08, tP 2 2, tS 4 u08, tB 9 (sEq u08 (bs [92, 43]))], [bC 2 GOp.z], []⟩ ?_
    rcases oif h with ⟨h442, h⟩ | ⟨h442, h⟩
    · refine Wc.cT h442 ?_
      apply Wc.seq
      refine Wc.r0 ⟨[tP 2 2, tB 3 true], [bC 2 [.str u08, aI 900, aI 0, aI 900]], []⟩ ?_
      obtain rfl := Option.some.inj h; exact Wc.ret dn
    · refine Wc.cF h442 ?_
      apply Wc.seq
      refine Wc.r0 ⟨[tS 0 u08, tP 2 2, tB 13 (sEq u08 (bs [45]))], [bC 2 GOp.z], []⟩ ?_
      rcases oif h with ⟨h443, h⟩ | ⟨h443, h⟩
      · refine Wc.cT h443 ?_
        apply Wc.seq
        refine Wc.r0 ⟨[tP 2 2, tB 3 true], [bC 2 [.str u08, aI 200, aI 0, aI 200]], []⟩ ?_
        obtain rfl := Option.some.inj h; exact Wc.ret dn
      · refine Wc.cF h443 ?_
        refine Wc.fx [] ⟨[tP 2 2], [bC 2 GOp.z], []⟩ ?_
        refine Wc.skip ?_
        apply Wc.seq
        refine Wc.r0 ⟨[tP 2 2, tB 3 false], [bC 2 GOp.z], []⟩ ?_
        obtain rfl := Option.some.inj h; exact Wc.ret dn

def pspec_l06Read_variable_J1 (k : Nat) (u8 : GL06Read) (v8 : ByteArray) : Option (GL06Read × GTerm) :=
  if u8.gNames.length + [v8].length ≤ 1073741824 then
    (pspec_l03Var k (wr.i64 (((u8.gNames ++ [v8]).length : Int) - 1))).bind fun ucu =>
    some (GL06Read.mk u8.gList u8.gAt u8.gBad u8.gDeep (u8.gNames ++ [v8]), ucu)
  else none
def pspec_l06Read_variable_L2 (k : Nat) (u8 : GL06Read) (v8 : ByteArray) : Nat → Int → Option (Out (GL06Read × GTerm) Unit)
  | 0, _ => none
  | m + 1, u36 =>
    if (decide (u36 < (u8.gNames.length : Int))) = true then
      (at' u8.gNames u36).bind fun uaa =>
      if (sEq uaa v8) = true then
        (pspec_l03Var k u36).bind fun ucv =>
        some (.ret (u8, ucv))
      else
        pspec_l06Read_variable_L2 k u8 v8 m (wr.i64 (u36 + 1))
    else
      some (.done ())
def pspec_l06Read_variable (k : Nat) (u8 : GL06Read) (v8 : ByteArray) : Option (GL06Read × GTerm) :=
  if (!(sEq v8 (bs [95]))) = true then
    (pspec_l06Read_variable_L2 k u8 v8 k 0).bind fun out2 => match out2 with
    | .ret r => some r
    | .done () =>
      pspec_l06Read_variable_J1 k u8 v8
  else
    pspec_l06Read_variable_J1 k u8 v8
theorem cspec_l06Read_variable {k : Nat} {u8 : GL06Read} {v8 : ByteArray} {r : GL06Read × GTerm} (h : pspec_l06Read_variable k u8 v8 = some r) : FnO Try.prog 191 [.p (GL06Read.k2 u8) (GL06Read.h4_9f u8), .v (.str v8) []] (.v (.agg (GTerm.q r.2)) [(3, .app 41)]) [(0, .p (GL06Read.k2 r.1) (GL06Read.h4_9f r.1))] := by
  refine FnO.o2 Try.func191 (rfl : Try.f191.body = some _) ?_
  intro w0 X0 Fin pv0 pb
  unfold pspec_l06Read_variable at h
  apply Wc.seq
  refine Wc.r0 ⟨[tP 0 1000000, tS 1 v8, tP 4 4], [(4, .cells GTerm.z [(3, .app 41)]), (1000000, .cells (GL06Read.k2 u8) (GL06Read.h4_9f u8))], []⟩ ?_
  refine Wc.seqJ (fun st => st = ⟨[tP 0 1000000, tS 1 v8, tP 4 4], [(4, .cells GTerm.z [(3, .app 41)]), (1000000, .cells (GL06Read.k2 u8) (GL06Read.h4_9f u8))], []⟩ ∧ pspec_l06Read_variable_J1 k u8 v8 = some r) ?_ ?_
  · apply Wc.seq
    refine Wc.r0 ⟨[tP 0 1000000, tS 1 v8, tP 4 4, tB 7 (!(sEq v8 (bs [95])))], [(4, .cells GTerm.z [(3, .app 41)]), (1000000, .cells (GL06Read.k2 u8) (GL06Read.h4_9f u8))], []⟩ ?_
    rcases oif h with ⟨h454, h⟩ | ⟨h454, h⟩
    · refine Wc.cT h454 ?_
      apply Wc.seq
      refine Wc.r0 ⟨[tP 0 1000000, tS 1 v8, tP 4 4, tI 5 0], [(4, .cells GTerm.z [(3, .app 41)]), (1000000, .cells (GL06Read.k2 u8) (GL06Read.h4_9f u8))], []⟩ ?_
      obtain ⟨out2, h455, h⟩ := obind h
      refine Wc.lastJ (fun st => out2 = .done () ∧ st = ⟨[tP 0 1000000, tS 1 v8, tP 4 4], [(4, .cells GTerm.z [(3, .app 41)]), (1000000, .cells (GL06Read.k2 u8) (GL06Read.h4_9f u8))], []⟩) ?_ ?_
      · refine Wc.block ?_
        refine Wc.loop (fun m st => ∃ (u36 : Int), st = ⟨[tP 0 1000000, tS 1 v8, tP 4 4, tI 5 u36], [(4, .cells GTerm.z [(3, .app 41)]), (1000000, .cells (GL06Read.k2 u8) (GL06Read.h4_9f u8))], []⟩ ∧ pspec_l06Read_variable_L2 k u8 v8 m u36 = some out2) ?_ k ⟨_, rfl, h455⟩
        rintro m st ⟨u36, rfl, h455⟩
        cases m with
        | zero => exact (onone h455).elim
        | succ m =>
          apply Wc.seq
          apply Wc.seq
          refine Wc.r2 [{}, {}, {}, {}, {}, { v := some (aI (u8.gNames.length : Int)) }] ⟨[tP 0 1000000, tS 1 v8, tP 4 4, tI 5 u36, tB 14 (decide (u36 < (u8.gNames.length : Int)))], [(4, .cells GTerm.z [(3, .app 41)]), (1000000, .cells (GL06Read.k2 u8) (GL06Read.h4_9f u8))], []⟩ (.cons (len_obl cS u8.gNames) .nil) ?_
          rcases oif h455 with ⟨h456, h455⟩ | ⟨h456, h455⟩
          · refine Wc.cT h456 ?_
            refine Wc.fx [] ⟨[tP 0 1000000, tS 1 v8, tP 4 4, tI 5 u36], [(4, .cells GTerm.z [(3, .app 41)]), (1000000, .cells (GL06Read.k2 u8) (GL06Read.h4_9f u8))], []⟩ ?_
            refine Wc.skip ?_
            apply Wc.seq
            refine Wc.block ?_
            apply Wc.seq
            obtain ⟨uaa, h457, h455⟩ := obind h455
            refine Wc.r2 [{}, {}, {}, {}, {}, {}, { v := some (.str uaa) }] ⟨[tP 0 1000000, tS 1 v8, tP 4 4, tI 5 u36, tB 25 (sEq uaa v8)], [(4, .cells GTerm.z [(3, .app 41)]), (1000000, .cells (GL06Read.k2 u8) (GL06Read.h4_9f u8))], []⟩ (.cons (ix_obl (c := cS) cS_len h457) (.cons (el_obl (sz := 1) (off := 0) (s := 1) (ag := false) (v := .str uaa) (c := cS) rfl (at'_spec h457).2 rfl (Nat.le_of_ble_eq_true rfl) rfl) .nil)) ?_
            rcases oif h455 with ⟨h458, h455⟩ | ⟨h458, h455⟩
            · refine Wc.cT h458 ?_
              apply Wc.seq
              obtain ⟨ucv, h459, h455⟩ := obind h455
              refine Wc.r2 [{}, { r := some (.v (.agg (GTerm.q ucv)) [(3, .app 41)]) }, { tk := [27] }] ⟨[tP 4 4], [(4, .cells (GTerm.q ucv) [(3, .app 41)]), (1000000, .cells (GL06Read.k2 u8) (GL06Read.h4_9f u8))], []⟩ (.cons (cspec_l03Var h459) .nil) ?_
              refine Wc.ret ?_
              obtain rfl := Option.some.inj h455
              obtain rfl := Option.some.inj h
              exact ⟨.inl rfl, by kernel_rfl, by kernel_rfl⟩
            · refine Wc.cF h458 ?_
              refine Wc.fx [] ⟨[tP 0 1000000, tS 1 v8, tP 4 4, tI 5 u36], [(4, .cells GTerm.z [(3, .app 41)]), (1000000, .cells (GL06Read.k2 u8) (GL06Read.h4_9f u8))], []⟩ ?_
              refine Wc.skip ?_
              refine Wc.r0 ⟨[tP 0 1000000, tS 1 v8, tP 4 4, tI 5 (wr.i64 (u36 + 1))], [(4, .cells GTerm.z [(3, .app 41)]), (1000000, .cells (GL06Read.k2 u8) (GL06Read.h4_9f u8))], []⟩ ?_
              exact ⟨_, Nat.lt_succ_self _, _, rfl, h455⟩
          · refine Wc.cF h456 ?_
            refine Wc.fx [] ⟨[tP 0 1000000, tS 1 v8, tP 4 4], [(4, .cells GTerm.z [(3, .app 41)]), (1000000, .cells (GL06Read.k2 u8) (GL06Read.h4_9f u8))], []⟩ ?_
            refine Wc.exit ?_
            obtain rfl := Option.some.inj h455
            exact ⟨rfl, rfl⟩
      · rintro st ⟨rfl, rfl⟩
        exact ⟨rfl, h⟩
    · refine Wc.cF h454 ?_
      refine Wc.fx [] ⟨[tP 0 1000000, tS 1 v8, tP 4 4], [(4, .cells GTerm.z [(3, .app 41)]), (1000000, .cells (GL06Read.k2 u8) (GL06Read.h4_9f u8))], []⟩ ?_
      refine Wc.skip ?_
      exact ⟨rfl, h⟩
  · rintro st ⟨rfl, h⟩
    apply Wc.seq
    obtain ⟨h452, h⟩ := oguard h
    refine Wc.r2 [{}, {}, {}, {}, { md := 1 }, {}, { c := some (List.map cS [v8]) }, { c := some (List.map cS (u8.gNames ++ [v8])), tk := [32], md := 1 }, {}, {}, { tk := [35] }] ⟨[tP 0 1000000, tP 4 4], [(4, .cells GTerm.z [(3, .app 41)]), (1000000, .cells (GL06Read.k2 u8) [(4, .ex 9 false (List.map cS (u8.gNames ++ [v8])))])], []⟩ (.cons (cl_cons (c := cS) (x := v8) rfl (cl_nil cS)) (.cons (app_re2 cS u8.gNames [v8]) (.cons (app_leaf (c := cS) (ys := [v8]) cS_leaf) (.cons (app_obl2 (c := cS) (xs := u8.gNames) (ys := [v8]) cS_len h452) .nil)))) ?_
    apply Wc.seq
    obtain ⟨ucu, h453, h⟩ := obind h
    refine Wc.r2 [{}, {}, {}, {}, { v := some (aI ((u8.gNames ++ [v8]).length : Int)) }, {}, { r := some (.v (.agg (GTerm.q ucu)) [(3, .app 41)]) }, { tk := [44] }] ⟨[tP 4 4], [(4, .cells (GTerm.q ucu) [(3, .app 41)]), (1000000, .cells (GL06Read.k2 u8) [(4, .ex 9 false (List.map cS (u8.gNames ++ [v8])))])], []⟩ (.cons (len_obl cS (u8.gNames ++ [v8])) (.cons (cspec_l03Var h453) .nil)) ?_
    obtain rfl := Option.some.inj h; exact Wc.ret dn

def pspec_l06Read_infix_J1 (k : Nat) (uab : Bool) (zf : GL06Read) : Option (GL06Read × GOp × Bool) :=
  if uab = true then
    (at' zf.gList zf.gAt).bind fun u60 =>
    (pspec_InfixOf k u60.gText).bind fun u6n =>
    some (zf, u6n.1, u6n.2)
  else
    some (zf, GOp.mk (bs []) 0 0 0, false)
def pspec_l06Read_infix (k : Nat) (u3h : GL06Read) : Option (GL06Read × GOp × Bool) :=
  (pspec_l06Read_is k u3h 4 (bs [44])).bind fun zo =>
  if zo.2 = true then
    (pspec_InfixOf k (bs [44])).bind fun u6o =>
    some (zo.1, u6o.1, u6o.2)
  else
    (pspec_l06Read_is k zo.1 1 (bs [])).bind fun za =>
    if za.2 = true then
      (at' za.1.gList za.1.gAt).bind fun u80 =>
      pspec_l06Read_infix_J1 k (!u80.gNear) za.1
    else
      pspec_l06Read_infix_J1 k false za.1
theorem cspec_l06Read_infix {k : Nat} {u3h : GL06Read} {r : GL06Read × GOp × Bool} (h : pspec_l06Read_infix k u3h = some r) : FnO Try.prog 180 [.p (GL06Read.k2 u3h) (GL06Read.h4_9f u3h)] (.v (.tup [.agg (GOp.q r.2.1), .bool r.2.2]) []) [(0, .p (GL06Read.k2 r.1) (GL06Read.h4_9f r.1))] := by
  refine FnO.o2 Try.func180 (rfl : Try.f180.body = some _) ?_
  intro w0 X0 Fin pv0 pb
  unfold pspec_l06Read_infix at h
  apply Wc.seq
  refine Wc.r0 ⟨[tP 0 1000000, tP 2 2], [bC 2 GOp.z, (1000000, .cells (GL06Read.k2 u3h) (GL06Read.h4_9f u3h))], []⟩ ?_
  apply Wc.seq
  apply Wc.seq
  obtain ⟨zo, h460, h⟩ := obind h
  refine Wc.r2 [{}, { r := some (.v (.bool zo.2) []), outs := [(0, .p (GL06Read.k2 zo.1) (GL06Read.h4_9f zo.1))] }] ⟨[tP 0 1000000, tP 2 2, tB 5 zo.2], [bC 2 GOp.z, (1000000, .cells (GL06Read.k2 zo.1) (GL06Read.h4_9f zo.1))], []⟩ (.cons (cspec_l06Read_is h460) .nil) ?_
  rcases oif h with ⟨h461, h⟩ | ⟨h461, h⟩
  · refine Wc.cT h461 ?_
    apply Wc.seq
    obtain ⟨u6o, h462, h⟩ := obind h
    refine Wc.r2 [{ r := some (.v (.tup [.agg (GOp.q u6o.1), .bool u6o.2]) []) }] ⟨[tP 2 2, tB 3 u6o.2], [bC 2 (GOp.q u6o.1), (1000000, .cells (GL06Read.k2 zo.1) (GL06Read.h4_9f zo.1))], []⟩ (.cons (cspec_InfixOf h462) .nil) ?_
    obtain rfl := Option.some.inj h; exact Wc.ret dn
  · refine Wc.cF h461 ?_
    refine Wc.fx [] ⟨[tP 0 1000000, tP 2 2], [bC 2 GOp.z, (1000000, .cells (GL06Read.k2 zo.1) (GL06Read.h4_9f zo.1))], []⟩ ?_
    refine Wc.skip ?_
    apply Wc.seq
    refine Wc.seqJ (fun st => ∃ (uab : Bool) (zf : GL06Read), st = ⟨[tP 0 1000000, tP 2 2, tB 24 uab], [bC 2 GOp.z, (1000000, .cells (GL06Read.k2 zf) (GL06Read.h4_9f zf))], []⟩ ∧ pspec_l06Read_infix_J1 k uab zf = some r) ?_ ?_
    · obtain ⟨za, h466, h⟩ := obind h
      rcases oif h with ⟨h467, h⟩ | ⟨h467, h⟩
      · obtain ⟨u80, h468, h⟩ := obind h
        refine Wc.draw hmix [{}, { r := some (.v (.bool za.2) []), outs := [(0, .p (GL06Read.k2 za.1) (GL06Read.h4_9f za.1))] }, { re := some (.bool true) }, {}, {}, {}, {}, {}, {}, {}, {}, { v := some (.vptr (GSign.q u80)) }] [] [0, 2, 24] [2, 1000000] [] ⟨[tP 0 1000000, tP 2 2, tB 24 (!u80.gNear)], [bC 2 GOp.z, (1000000, .cells (GL06Read.k2 za.1) (GL06Read.h4_9f za.1))], []⟩ _ (by kernel_rfl) (fun X => by kernel_rfl) (.cons (cspec_l06Read_is h466) (.cons (congrArg AV.bool h467) (.cons (at_obl (c := GSign.c) (GSign.c_eq u80) GSign.c_len h468) (.cons (len_ok 1 [.bool u80.gNear]) .nil)))) ?_
        exact ⟨_, _, rfl, h⟩
      · refine Wc.draw hmix [{}, { r := some (.v (.bool za.2) []), outs := [(0, .p (GL06Read.k2 za.1) (GL06Read.h4_9f za.1))] }, { re := some (.bool false) }] [] [0, 2, 24] [2, 1000000] [] ⟨[tP 0 1000000, tP 2 2, tB 24 false], [bC 2 GOp.z, (1000000, .cells (GL06Read.k2 za.1) (GL06Read.h4_9f za.1))], []⟩ _ (by kernel_rfl) (fun X => by kernel_rfl) (.cons (cspec_l06Read_is h466) (.cons (congrArg AV.bool h467) .nil)) ?_
        exact ⟨_, _, rfl, h⟩
    · rintro st ⟨uab, zf, rfl, h⟩
      rcases oif h with ⟨h463, h⟩ | ⟨h463, h⟩
      · refine Wc.cT h463 ?_
        apply Wc.seq
        obtain ⟨u60, h464, h⟩ := obind h
        obtain ⟨u6n, h465, h⟩ := obind h
        refine Wc.draw hmix [{}, {}, {}, {}, {}, {}, {}, {}, { v := some (.vptr (GSign.q u60)) }, {}, {}, { r := some (.v (.tup [.agg (GOp.q u6n.1), .bool u6n.2]) []) }] [] [2, 3] [2, 1000000] [] ⟨[tP 2 2, tB 3 u6n.2], [bC 2 (GOp.q u6n.1), (1000000, .cells (GL06Read.k2 zf) (GL06Read.h4_9f zf))], []⟩ _ (by kernel_rfl) (fun X => by kernel_rfl) (.cons (at_obl (c := GSign.c) (GSign.c_eq u60) GSign.c_len h464) (.cons (len_ok 1 [.str u60.gText, aI u60.gNum, aI u60.gAt, .bool u60.gNear]) (.cons (cspec_InfixOf h465) .nil))) ?_
        obtain rfl := Option.some.inj h; exact Wc.ret dn
      · refine Wc.cF h463 ?_
        refine Wc.fx [] ⟨[tP 2 2], [bC 2 GOp.z, (1000000, .cells (GL06Read.k2 zf) (GL06Read.h4_9f zf))], []⟩ ?_
        refine Wc.skip ?_
        apply Wc.seq
        refine Wc.r0 ⟨[tP 2 2, tB 3 false], [bC 2 GOp.z, (1000000, .cells (GL06Read.k2 zf) (GL06Read.h4_9f zf))], []⟩ ?_
        obtain rfl := Option.some.inj h; exact Wc.ret dn
end Go.Proofs.Ythemaodhckmnkaa

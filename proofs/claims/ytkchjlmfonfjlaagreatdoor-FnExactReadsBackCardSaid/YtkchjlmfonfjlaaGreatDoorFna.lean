/- What the functions do, part 1. -/
import Derived.Test.YtkchjlmfonfjlaaGreatDoorTy
set_option linter.unusedVariables false
set_option linter.unusedSimpArgs false
namespace Go.Proofs.YtkchjlmfonfjlaaGreatDoor
open Go.RowKit Go.Bv
def Z5z (k : Nat) (Zdx : GTerm → Int → Option Int) (Zid : (List GTerm) → Int → Option Int) (vn : List GTerm) : Nat → Int → Int → Option (Out Int Int)
  | 0, _, _ => none
  | m + 1, u5x, u3p =>
    if (decide (u3p < (vn.length : Int))) = true then
      (at' vn u3p).bind fun u9z =>
      (Zdx u9z u5x).bind fun u5y =>
      if (decide (u5y < 0)) = true then
        some (.ret (-1))
      else
        Z5z k Zdx Zid vn m u5y (wr.i64 (u3p + 1))
    else
      some (.done u5x)
mutual
def Z2s : Nat → GTerm → Int → Option Int
  | 0, _, _ => none
  | k + 1, u1u, u3c =>
    if (decide ((wr.i64 (u3c - (u1u.gName.size : Int))) < 0)) = true then
      some (-1)
    else
      (Z3g k u1u.gKids (wr.i64 (u3c - (u1u.gName.size : Int)))).bind fun u5z =>
      if (decide (u5z < 0)) = true then
        some (-1)
      else
        some u5z
def Z3g : Nat → (List GTerm) → Int → Option Int
  | 0, _, _ => none
  | k + 1, vn, u2r =>
    if (decide ((wr.i64 (u2r - (vn.length : Int))) < 0)) = true then
      some (-1)
    else
      (Z5z k (Z2s k) (Z3g k) vn k (wr.i64 (u2r - (vn.length : Int))) 0).bind fun out1 => match out1 with
      | .ret r => some r
      | .done u84 =>
        some u84
end
theorem Zek : ∀ k : Nat, (∀ {u1u : GTerm} {u3c : Int} {r : Int}, Z2s k u1u u3c = some r → FnO Tryz.prog 4 [.v (.agg (GTerm.q u1u)) [], .v (aI u3c) []] (.v (aI r) []) []) ∧
    (∀ {vn : List GTerm} {u2r : Int} {r : Int}, Z3g k vn u2r = some r → FnO Tryz.prog 9 [.v (.sl (List.map GTerm.c vn)) [], .v (aI u2r) []] (.v (aI r) []) []) := by
  intro k
  induction k with
  | zero =>
    refine ⟨?_, ?_⟩
    · intro u1u u3c r h
      exact (Z1r (by rw [Z2s] at h; exact h)).elim
    · intro vn u2r r h
      exact (Z1r (by rw [Z3g] at h; exact h)).elim
  | succ k ih =>
    obtain ⟨Zfz, Zee⟩ := ih
    refine ⟨?_, ?_⟩
    · intro u1u u3c r h
      rw [Z2s] at h
      refine FnO.o2 Tryz.func4 (rfl : Tryz.f4.body = some _) ?_
      intro w0 X0 Fin pv0 pb gt
      apply Wc.seq
      refine Wc.r0 ⟨[tI 1 u3c, tP 2 2], [bC 2 (GTerm.q u1u)], []⟩ ?_
      apply Wc.seq
      refine Wc.r0 ⟨[tI 1 (wr.i64 (u3c - (u1u.gName.size : Int))), tP 2 2], [bC 2 (GTerm.q u1u)], []⟩ ?_
      apply Wc.seq
      apply Wc.seq
      refine Wc.r0 ⟨[tI 1 (wr.i64 (u3c - (u1u.gName.size : Int))), tP 2 2, tB 11 (decide ((wr.i64 (u3c - (u1u.gName.size : Int))) < 0))], [bC 2 (GTerm.q u1u)], []⟩ ?_
      rcases oif h with ⟨h1, h⟩ | ⟨h1, h⟩
      · refine Wc.cT h1 ?_
        apply Wc.seq
        refine Wc.r0 ⟨[tI 4 (-1)], [], []⟩ ?_
        cases h; exact Wc.ret dn
      · refine Wc.cF h1 ?_
        refine Wc.fx [] ⟨[tI 1 (wr.i64 (u3c - (u1u.gName.size : Int))), tP 2 2], [bC 2 (GTerm.q u1u)], []⟩ ?_
        refine Wc.skip ?_
        apply Wc.seq
        obtain ⟨u5z, h2, h⟩ := Z0 h
        refine Wc.r2 [{}, {}, {}, { r := some (.v (aI u5z) []) }] ⟨[tI 1 u5z], [], []⟩ (.cons (Zee h2) .nil) ?_
        apply Wc.seq
        apply Wc.seq
        refine Wc.r0 ⟨[tI 1 u5z, tB 17 (decide (u5z < 0))], [], []⟩ ?_
        rcases oif h with ⟨h3, h⟩ | ⟨h3, h⟩
        · refine Wc.cT h3 ?_
          apply Wc.seq
          refine Wc.r0 ⟨[tI 4 (-1)], [], []⟩ ?_
          cases h; exact Wc.ret dn
        · refine Wc.cF h3 ?_
          refine Wc.fx [] ⟨[tI 1 u5z], [], []⟩ ?_
          refine Wc.skip ?_
          apply Wc.seq
          refine Wc.r0 ⟨[tI 4 u5z], [], []⟩ ?_
          cases h; exact Wc.ret dn
    · intro vn u2r r h
      rw [Z3g] at h
      refine FnO.o2 Tryz.func9 (rfl : Tryz.f9.body = some _) ?_
      intro w0 X0 Fin pv0 pb gt
      apply Wc.seq
      refine Wc.r0 ⟨[tV 0 (.sl (List.map GTerm.c vn)), tI 1 u2r], [], []⟩ ?_
      apply Wc.seq
      refine Wc.r2 [{}, {}, { v := some (aI (vn.length : Int)) }] ⟨[tV 0 (.sl (List.map GTerm.c vn)), tI 1 (wr.i64 (u2r - (vn.length : Int)))], [], []⟩ (.cons (Zn GTerm.c vn) .nil) ?_
      apply Wc.seq
      apply Wc.seq
      refine Wc.r0 ⟨[tV 0 (.sl (List.map GTerm.c vn)), tI 1 (wr.i64 (u2r - (vn.length : Int))), tB 11 (decide ((wr.i64 (u2r - (vn.length : Int))) < 0))], [], []⟩ ?_
      rcases oif h with ⟨h4, h⟩ | ⟨h4, h⟩
      · refine Wc.cT h4 ?_
        apply Wc.seq
        refine Wc.r0 ⟨[tI 4 (-1)], [], []⟩ ?_
        cases h; exact Wc.ret dn
      · refine Wc.cF h4 ?_
        refine Wc.fx [] ⟨[tV 0 (.sl (List.map GTerm.c vn)), tI 1 (wr.i64 (u2r - (vn.length : Int)))], [], []⟩ ?_
        refine Wc.skip ?_
        apply Wc.seq
        apply Wc.seq
        refine Wc.r0 ⟨[tV 0 (.sl (List.map GTerm.c vn)), tI 1 (wr.i64 (u2r - (vn.length : Int))), tI 5 0], [], []⟩ ?_
        obtain ⟨out1, h5, h⟩ := Z0 h
        refine Wc.lastJ (fun st => ∃ (u84 : Int), out1 = .done u84 ∧ st = ⟨[tI 1 u84], [], []⟩) ?_ ?_
        · refine Wc.block ?_
          refine Wc.loop (fun m st => ∃ (u5x : Int) (u3p : Int), st = ⟨[tV 0 (.sl (List.map GTerm.c vn)), tI 1 u5x, tI 5 u3p], [], []⟩ ∧ Z5z k (Z2s k) (Z3g k) vn m u5x u3p = some out1) ?_ k ⟨_, _, rfl, h5⟩
          rintro m st ⟨u5x, u3p, rfl, h5⟩
          cases m with
          | zero => exact (Z1r h5).elim
          | succ m =>
            apply Wc.seq
            apply Wc.seq
            refine Wc.r2 [{}, {}, { v := some (aI (vn.length : Int)) }] ⟨[tV 0 (.sl (List.map GTerm.c vn)), tI 1 u5x, tI 5 u3p, tB 15 (decide (u3p < (vn.length : Int)))], [], []⟩ (.cons (Zn GTerm.c vn) .nil) ?_
            rcases oif h5 with ⟨h6, h5⟩ | ⟨h6, h5⟩
            · refine Wc.cT h6 ?_
              refine Wc.fx [] ⟨[tV 0 (.sl (List.map GTerm.c vn)), tI 1 u5x, tI 5 u3p], [], []⟩ ?_
              refine Wc.skip ?_
              apply Wc.seq
              refine Wc.block ?_
              apply Wc.seq
              obtain ⟨u9z, h7, h5⟩ := Z0 h5
              obtain ⟨u5y, h8, h5⟩ := Z0 h5
              refine Wc.r2 [{}, {}, { v := some (.vptr (GTerm.q u9z)) }, {}, {}, { r := some (.v (aI u5y) []) }] ⟨[tV 0 (.sl (List.map GTerm.c vn)), tI 1 u5y, tI 5 u3p], [], []⟩ (.cons (Z19 (c := GTerm.c) (GTerm.c_eq u9z) GTerm.c_len h7) (.cons (Z18 4 (GTerm.q u9z)) (.cons (Zfz h8) .nil))) ?_
              apply Wc.seq
              refine Wc.r0 ⟨[tV 0 (.sl (List.map GTerm.c vn)), tI 1 u5y, tI 5 u3p, tB 25 (decide (u5y < 0))], [], []⟩ ?_
              rcases oif h5 with ⟨h9, h5⟩ | ⟨h9, h5⟩
              · refine Wc.cT h9 ?_
                apply Wc.seq
                refine Wc.r0 ⟨[tI 4 (-1)], [], []⟩ ?_
                refine Wc.ret ?_
                cases h5
                cases h
                exact ⟨.inl rfl, by kernel_rfl, by kernel_rfl⟩
              · refine Wc.cF h9 ?_
                refine Wc.fx [] ⟨[tV 0 (.sl (List.map GTerm.c vn)), tI 1 u5y, tI 5 u3p], [], []⟩ ?_
                refine Wc.skip ?_
                refine Wc.r0 ⟨[tV 0 (.sl (List.map GTerm.c vn)), tI 1 u5y, tI 5 (wr.i64 (u3p + 1))], [], []⟩ ?_
                exact ⟨_, Nat.lt_succ_self _, _, _, rfl, h5⟩
            · refine Wc.cF h6 ?_
              refine Wc.fx [] ⟨[tI 1 u5x], [], []⟩ ?_
              refine Wc.exit ?_
              cases h5
              exact ⟨_, rfl, rfl⟩
        · rintro st ⟨u84, rfl, rfl⟩
          apply Wc.seq
          refine Wc.r0 ⟨[tI 4 u84], [], []⟩ ?_
          cases h; exact Wc.ret dn
theorem Zkj {k : Nat} {u1u : GTerm} {u3c : Int} {r : Int} (h : Z2s k u1u u3c = some r) : FnO Tryz.prog 4 [.v (.agg (GTerm.q u1u)) [], .v (aI u3c) []] (.v (aI r) []) [] := (Zek k).1 h


def Z5u (k : Nat) (Zbq : GTerm → Int → Option Int) (zv : GTerm) : Nat → Int → Int → Option (Out Int Int)
  | 0, _, _ => none
  | m + 1, u3q, u4g =>
    if (decide (u4g < (zv.gKids.length : Int))) = true then
      if (decide (u3q ≥ 0)) = true then
        (at' zv.gKids u4g).bind fun ua0 =>
        (Zbq ua0 u3q).bind fun ua1 =>
        Z5u k Zbq zv m ua1 (wr.i64 (u4g + 1))
      else
        some (.done u3q)
    else
      some (.done u3q)
mutual
def Z4o : Nat → GTerm → Int → Option Int
  | 0, _, _ => none
  | k + 1, zv, u4h =>
    (Z5u k (Z4o k) zv k (wr.i64 (u4h - 1)) 0).bind fun out1 => match out1 with
    | .ret r => some r
    | .done u85 =>
      some u85
end
theorem Zgq : ∀ k : Nat, (∀ {zv : GTerm} {u4h : Int} {r : Int}, Z4o k zv u4h = some r → FnO Tryz.prog 20 [.v (.agg (GTerm.q zv)) [], .v (aI u4h) []] (.v (aI r) []) []) := by
  intro k
  induction k with
  | zero =>
    · intro zv u4h r h
      exact (Z1r (by rw [Z4o] at h; exact h)).elim
  | succ k ih =>
    have Zgw := @ih
    · intro zv u4h r h
      rw [Z4o] at h
      refine FnO.o2 Tryz.func20 (rfl : Tryz.f20.body = some _) ?_
      intro w0 X0 Fin pv0 pb gt
      apply Wc.seq
      refine Wc.r0 ⟨[tI 1 u4h, tP 2 2], [bC 2 (GTerm.q zv)], []⟩ ?_
      apply Wc.seq
      refine Wc.r0 ⟨[tI 1 (wr.i64 (u4h - 1)), tP 2 2], [bC 2 (GTerm.q zv)], []⟩ ?_
      apply Wc.seq
      apply Wc.seq
      refine Wc.r0 ⟨[tI 1 (wr.i64 (u4h - 1)), tP 2 2, tI 5 0], [bC 2 (GTerm.q zv)], []⟩ ?_
      obtain ⟨out1, h10, h⟩ := Z0 h
      refine Wc.lastJ (fun st => ∃ (u85 : Int), out1 = .done u85 ∧ st = ⟨[tI 1 u85], [], []⟩) ?_ ?_
      · refine Wc.block ?_
        refine Wc.loop (fun m st => ∃ (u3q : Int) (u4g : Int), st = ⟨[tI 1 u3q, tP 2 2, tI 5 u4g], [bC 2 (GTerm.q zv)], []⟩ ∧ Z5u k (Z4o k) zv m u3q u4g = some out1) ?_ k ⟨_, _, rfl, h10⟩
        rintro m st ⟨u3q, u4g, rfl, h10⟩
        cases m with
        | zero => exact (Z1r h10).elim
        | succ m =>
          apply Wc.seq
          apply Wc.seq
          rcases oif h10 with ⟨h11, h10⟩ | ⟨h11, h10⟩
          · refine Wc.r2 [{}, {}, {}, { v := some (aI (zv.gKids.length : Int)) }, {}, rT] ⟨[tI 1 u3q, tP 2 2, tI 5 u4g, tB 16 (decide (u3q ≥ 0))], [bC 2 (GTerm.q zv)], []⟩ (.cons (Zn GTerm.c zv.gKids) (cb h11 .nil)) ?_
            rcases oif h10 with ⟨h12, h10⟩ | ⟨h12, h10⟩
            · refine Wc.cT h12 ?_
              refine Wc.fx [] ⟨[tI 1 u3q, tP 2 2, tI 5 u4g], [bC 2 (GTerm.q zv)], []⟩ ?_
              refine Wc.skip ?_
              apply Wc.seq
              refine Wc.block ?_
              obtain ⟨ua0, h13, h10⟩ := Z0 h10
              obtain ⟨ua1, h14, h10⟩ := Z0 h10
              refine Wc.r2 [{}, {}, {}, { v := some (.vptr (GTerm.q ua0)) }, {}, {}, { r := some (.v (aI ua1) []) }] ⟨[tI 1 ua1, tP 2 2, tI 5 u4g], [bC 2 (GTerm.q zv)], []⟩ (.cons (Z19 (c := GTerm.c) (GTerm.c_eq ua0) GTerm.c_len h13) (.cons (Z18 4 (GTerm.q ua0)) (.cons (Zgw h14) .nil))) ?_
              refine Wc.r0 ⟨[tI 1 ua1, tP 2 2, tI 5 (wr.i64 (u4g + 1))], [bC 2 (GTerm.q zv)], []⟩ ?_
              exact ⟨_, Nat.lt_succ_self _, _, _, rfl, h10⟩
            · refine Wc.cF h12 ?_
              refine Wc.fx [] ⟨[tI 1 u3q], [], []⟩ ?_
              refine Wc.exit ?_
              cases h10
              exact ⟨_, rfl, rfl⟩
          · refine Wc.r2 [{}, {}, {}, { v := some (aI (zv.gKids.length : Int)) }, {}, rF] ⟨[tI 1 u3q, tP 2 2, tI 5 u4g, tB 16 false], [bC 2 (GTerm.q zv)], []⟩ (.cons (Zn GTerm.c zv.gKids) (cb h11 .nil)) ?_
            refine Wc.cF rfl ?_
            refine Wc.fx [] ⟨[tI 1 u3q], [], []⟩ ?_
            refine Wc.exit ?_
            cases h10
            exact ⟨_, rfl, rfl⟩
      · rintro st ⟨u85, rfl, rfl⟩
        apply Wc.seq
        refine Wc.r0 ⟨[tI 4 u85], [], []⟩ ?_
        cases h; exact Wc.ret dn
theorem Zgk {k : Nat} {zv : GTerm} {u4h : Int} {r : Int} (h : Z4o k zv u4h = some r) : FnO Tryz.prog 20 [.v (.agg (GTerm.q zv)) [], .v (aI u4h) []] (.v (aI r) []) [] := (Zgq k) h

def Z7y (k : Nat) (u77 : Int) (ua2 : Int) (u86 : Int) : Option Bool :=
  if (decide (u77 ≥ ua2)) = true then
    some (decide (u77 ≤ u86))
  else
    some false
theorem Z82 {k : Nat} {u77 : Int} {ua2 : Int} {u86 : Int} {r : Bool} (h : Z7y k u77 ua2 u86 = some r) : FnO Tryz.prog 39 [.v (aI u77) [], .v (aI ua2) [], .v (aI u86) []] (.v (.bool r) []) [] := by
  refine FnO.o2 Tryz.func39 (rfl : Tryz.f39.body = some _) ?_
  intro w0 X0 Fin pv0 pb gt
  unfold Z7y at h
  apply Wc.seq
  refine Wc.r0 ⟨[tI 0 u77, tI 1 ua2, tI 2 u86], [], []⟩ ?_
  apply Wc.seq
  rcases oif h with ⟨h15, h⟩ | ⟨h15, h⟩
  · refine Wc.r2 [{}, {}, {}, rT] ⟨[tB 6 (decide (u77 ≤ u86))], [], []⟩ (cb h15 .nil) ?_
    cases h; exact Wc.ret dn
  · refine Wc.r2 [{}, {}, {}, rF] ⟨[tB 6 false], [], []⟩ (cb h15 .nil) ?_
    cases h; exact Wc.ret dn

def Z6m (k : Nat) (z3 : ByteArray) : Nat → Int → Option (Out Bool Unit)
  | 0, _ => none
  | m + 1, zn =>
    if (decide (zn < (z3.size : Int))) = true then
      if 0 ≤ zn ∧ (zn).toNat < z3.size then
        if (decide ((bt z3 zn) < 33)) = true then
          some (.ret false)
        else
          if 0 ≤ zn ∧ (zn).toNat < z3.size then
            if (decide ((bt z3 zn) > 126)) = true then
              some (.ret false)
            else
              if 0 ≤ zn ∧ (zn).toNat < z3.size then
                if ((bt z3 zn) == 39) = true then
                  some (.ret false)
                else
                  if 0 ≤ zn ∧ (zn).toNat < z3.size then
                    if ((bt z3 zn) == 34) = true then
                      some (.ret false)
                    else
                      Z6m k z3 m (wr.i64 (zn + 1))
                  else none
              else none
          else none
      else none
    else
      some (.done ())
def Z70 (k : Nat) (z3 : ByteArray) : Option Bool :=
  (Z6m k z3 k 0).bind fun out1 => match out1 with
  | .ret r => some r
  | .done () =>
    (Z7y k (z3.size : Int) 1 20).bind fun ude =>
    some ude
theorem Z74 {k : Nat} {z3 : ByteArray} {r : Bool} (h : Z70 k z3 = some r) : FnO Tryz.prog 62 [.v (.str z3) []] (.v (.bool r) []) [] := by
  refine FnO.o2 Tryz.func62 (rfl : Tryz.f62.body = some _) ?_
  intro w0 X0 Fin pv0 pb gt
  unfold Z70 at h
  apply Wc.seq
  refine Wc.r0 ⟨[tS 0 z3], [], []⟩ ?_
  apply Wc.seq
  apply Wc.seq
  refine Wc.r0 ⟨[tS 0 z3, tI 3 0], [], []⟩ ?_
  obtain ⟨out1, h16, h⟩ := Z0 h
  refine Wc.lastJ (fun st => out1 = .done () ∧ st = ⟨[tS 0 z3], [], []⟩) ?_ ?_
  · refine Wc.block ?_
    refine Wc.loop (fun m st => ∃ (zn : Int), st = ⟨[tS 0 z3, tI 3 zn], [], []⟩ ∧ Z6m k z3 m zn = some out1) ?_ k ⟨_, rfl, h16⟩
    rintro m st ⟨zn, rfl, h16⟩
    cases m with
    | zero => exact (Z1r h16).elim
    | succ m =>
      apply Wc.seq
      apply Wc.seq
      refine Wc.r0 ⟨[tS 0 z3, tI 3 zn, tB 7 (decide (zn < (z3.size : Int)))], [], []⟩ ?_
      rcases oif h16 with ⟨h17, h16⟩ | ⟨h17, h16⟩
      · refine Wc.cT h17 ?_
        refine Wc.fx [] ⟨[tS 0 z3, tI 3 zn], [], []⟩ ?_
        refine Wc.skip ?_
        apply Wc.seq
        refine Wc.block ?_
        apply Wc.seq
        obtain ⟨h18, h16⟩ := Zg h16
        rcases oif h16 with ⟨h19, h16⟩ | ⟨h19, h16⟩
        · refine Wc.r2 [{}, {}, {}, {}, rT] ⟨[tS 0 z3, tI 3 zn, tB 31 true], [], []⟩ (.cons h18 (cb h19 .nil)) ?_
          refine Wc.cT rfl ?_
          apply Wc.seq
          refine Wc.r0 ⟨[tB 2 false], [], []⟩ ?_
          refine Wc.ret ?_
          cases h16
          cases h
          exact ⟨.inl rfl, by kernel_rfl, by kernel_rfl⟩
        · obtain ⟨h20, h16⟩ := Zg h16
          rcases oif h16 with ⟨h21, h16⟩ | ⟨h21, h16⟩
          · refine Wc.r2 [{}, {}, {}, {}, rF, {}, {}, {}, {}, {}, rT] ⟨[tS 0 z3, tI 3 zn, tB 31 true], [], []⟩ (.cons h18 (cb h19 (.cons h20 (cb h21 .nil)))) ?_
            refine Wc.cT rfl ?_
            apply Wc.seq
            refine Wc.r0 ⟨[tB 2 false], [], []⟩ ?_
            refine Wc.ret ?_
            cases h16
            cases h
            exact ⟨.inl rfl, by kernel_rfl, by kernel_rfl⟩
          · obtain ⟨h22, h16⟩ := Zg h16
            rcases oif h16 with ⟨h23, h16⟩ | ⟨h23, h16⟩
            · refine Wc.r2 [{}, {}, {}, {}, rF, {}, {}, {}, {}, {}, rF, {}, {}, {}, {}, {}, rT] ⟨[tS 0 z3, tI 3 zn, tB 31 true], [], []⟩ (.cons h18 (cb h19 (.cons h20 (cb h21 (.cons h22 (cb h23 .nil)))))) ?_
              refine Wc.cT rfl ?_
              apply Wc.seq
              refine Wc.r0 ⟨[tB 2 false], [], []⟩ ?_
              refine Wc.ret ?_
              cases h16
              cases h
              exact ⟨.inl rfl, by kernel_rfl, by kernel_rfl⟩
            · obtain ⟨h24, h16⟩ := Zg h16
              refine Wc.r2 [{}, {}, {}, {}, rF, {}, {}, {}, {}, {}, rF, {}, {}, {}, {}, {}, rF] ⟨[tS 0 z3, tI 3 zn, tB 31 ((bt z3 zn) == 34)], [], []⟩ (.cons h18 (cb h19 (.cons h20 (cb h21 (.cons h22 (cb h23 (.cons h24 .nil))))))) ?_
              rcases oif h16 with ⟨h25, h16⟩ | ⟨h25, h16⟩
              · refine Wc.cT h25 ?_
                apply Wc.seq
                refine Wc.r0 ⟨[tB 2 false], [], []⟩ ?_
                refine Wc.ret ?_
                cases h16
                cases h
                exact ⟨.inl rfl, by kernel_rfl, by kernel_rfl⟩
              · refine Wc.cF h25 ?_
                refine Wc.fx [] ⟨[tS 0 z3, tI 3 zn], [], []⟩ ?_
                refine Wc.skip ?_
                refine Wc.r0 ⟨[tS 0 z3, tI 3 (wr.i64 (zn + 1))], [], []⟩ ?_
                exact ⟨_, Nat.lt_succ_self _, _, rfl, h16⟩
      · refine Wc.cF h17 ?_
        refine Wc.fx [] ⟨[tS 0 z3], [], []⟩ ?_
        refine Wc.exit ?_
        cases h16
        exact ⟨rfl, rfl⟩
  · rintro st ⟨rfl, rfl⟩
    apply Wc.seq
    obtain ⟨ude, h26, h⟩ := Z0 h
    refine Wc.r2 [{}, {}, { r := some (.v (.bool ude) []) }] ⟨[tB 2 ude], [], []⟩ (.cons (Z82 h26) .nil) ?_
    cases h; exact Wc.ret dn

def Zap (k : Nat) (v9 : GTerm) : Option Bool :=
  if (v9.gKind == 1) = true then
    (Z7y k v9.gNum 0 99999).bind fun ua3 =>
    if ua3 = true then
      if (sEq v9.gName (bs [])) = true then
        some ((v9.gKids.length : Int) == 0)
      else
        some false
    else
      some false
  else
    if (v9.gKind == 2) = true then
      (Z70 k v9.gName).bind fun ua4 =>
      if ua4 = true then
        if (v9.gNum == 0) = true then
          some ((v9.gKids.length : Int) == 0)
        else
          some false
      else
        some false
    else
      if (v9.gKind == 3) = true then
        (Z7y k v9.gNum (-999999999) 999999999).bind fun ua5 =>
        if ua5 = true then
          if (sEq v9.gName (bs [])) = true then
            some ((v9.gKids.length : Int) == 0)
          else
            some false
        else
          some false
      else
        if (v9.gKind == 4) = true then
          (Z70 k v9.gName).bind fun ua6 =>
          if ua6 = true then
            if (v9.gNum == 0) = true then
              (Z7y k (v9.gKids.length : Int) 1 5).bind fun udf =>
              some udf
            else
              some false
          else
            some false
        else
          some false
theorem Zqx {k : Nat} {v9 : GTerm} {r : Bool} (h : Zap k v9 = some r) : FnO Tryz.prog 35 [.v (.agg (GTerm.q v9)) []] (.v (.bool r) []) [] := by
  refine FnO.o2 Tryz.func35 (rfl : Tryz.f35.body = some _) ?_
  intro w0 X0 Fin pv0 pb gt
  unfold Zap at h
  apply Wc.seq
  refine Wc.r0 ⟨[tP 1 1], [bC 1 (GTerm.q v9)], []⟩ ?_
  apply Wc.seq
  apply Wc.seq
  refine Wc.r0 ⟨[tP 1 1, tI 4 v9.gKind], [bC 1 (GTerm.q v9)], []⟩ ?_
  refine Wc.block ?_
  apply Wc.seq
  refine Wc.r0 ⟨[tP 1 1, tI 4 v9.gKind, tB 5 (v9.gKind == 1)], [bC 1 (GTerm.q v9)], []⟩ ?_
  rcases oif h with ⟨h27, h⟩ | ⟨h27, h⟩
  · refine Wc.cT h27 ?_
    apply Wc.seq
    obtain ⟨ua3, h28, h⟩ := Z0 h
    rcases oif h with ⟨h29, h⟩ | ⟨h29, h⟩
    · rcases oif h with ⟨h30, h⟩ | ⟨h30, h⟩
      · refine Wc.r2 [{}, {}, { r := some (.v (.bool ua3) []) }, rT, {}, {}, {}, {}, rT, {}, {}, { v := some (aI (v9.gKids.length : Int)) }] ⟨[tB 2 ((v9.gKids.length : Int) == 0)], [], []⟩ (.cons (Z82 h28) (cb h29 (cb h30 (.cons (Zn GTerm.c v9.gKids) .nil)))) ?_
        cases h; exact Wc.ret dn
      · refine Wc.r2 [{}, {}, { r := some (.v (.bool ua3) []) }, rT, {}, {}, {}, {}, rF] ⟨[tB 2 false], [], []⟩ (.cons (Z82 h28) (cb h29 (cb h30 .nil))) ?_
        cases h; exact Wc.ret dn
    · refine Wc.r2 [{}, {}, { r := some (.v (.bool ua3) []) }, rF] ⟨[tB 2 false], [], []⟩ (.cons (Z82 h28) (cb h29 .nil)) ?_
      cases h; exact Wc.ret dn
  · refine Wc.cF h27 ?_
    apply Wc.seq
    refine Wc.r0 ⟨[tP 1 1, tI 4 v9.gKind, tB 21 (v9.gKind == 2)], [bC 1 (GTerm.q v9)], []⟩ ?_
    rcases oif h with ⟨h31, h⟩ | ⟨h31, h⟩
    · refine Wc.cT h31 ?_
      apply Wc.seq
      obtain ⟨ua4, h32, h⟩ := Z0 h
      rcases oif h with ⟨h33, h⟩ | ⟨h33, h⟩
      · rcases oif h with ⟨h34, h⟩ | ⟨h34, h⟩
        · refine Wc.r2 [{}, {}, { r := some (.v (.bool ua4) []) }, rT, {}, {}, {}, {}, rT, {}, {}, { v := some (aI (v9.gKids.length : Int)) }] ⟨[tB 2 ((v9.gKids.length : Int) == 0)], [], []⟩ (.cons (Z74 h32) (cb h33 (cb h34 (.cons (Zn GTerm.c v9.gKids) .nil)))) ?_
          cases h; exact Wc.ret dn
        · refine Wc.r2 [{}, {}, { r := some (.v (.bool ua4) []) }, rT, {}, {}, {}, {}, rF] ⟨[tB 2 false], [], []⟩ (.cons (Z74 h32) (cb h33 (cb h34 .nil))) ?_
          cases h; exact Wc.ret dn
      · refine Wc.r2 [{}, {}, { r := some (.v (.bool ua4) []) }, rF] ⟨[tB 2 false], [], []⟩ (.cons (Z74 h32) (cb h33 .nil)) ?_
        cases h; exact Wc.ret dn
    · refine Wc.cF h31 ?_
      apply Wc.seq
      refine Wc.r0 ⟨[tP 1 1, tI 4 v9.gKind, tB 37 (v9.gKind == 3)], [bC 1 (GTerm.q v9)], []⟩ ?_
      rcases oif h with ⟨h35, h⟩ | ⟨h35, h⟩
      · refine Wc.cT h35 ?_
        apply Wc.seq
        obtain ⟨ua5, h36, h⟩ := Z0 h
        rcases oif h with ⟨h37, h⟩ | ⟨h37, h⟩
        · rcases oif h with ⟨h38, h⟩ | ⟨h38, h⟩
          · refine Wc.r2 [{}, {}, { r := some (.v (.bool ua5) []) }, rT, {}, {}, {}, {}, rT, {}, {}, { v := some (aI (v9.gKids.length : Int)) }] ⟨[tB 2 ((v9.gKids.length : Int) == 0)], [], []⟩ (.cons (Z82 h36) (cb h37 (cb h38 (.cons (Zn GTerm.c v9.gKids) .nil)))) ?_
            cases h; exact Wc.ret dn
          · refine Wc.r2 [{}, {}, { r := some (.v (.bool ua5) []) }, rT, {}, {}, {}, {}, rF] ⟨[tB 2 false], [], []⟩ (.cons (Z82 h36) (cb h37 (cb h38 .nil))) ?_
            cases h; exact Wc.ret dn
        · refine Wc.r2 [{}, {}, { r := some (.v (.bool ua5) []) }, rF] ⟨[tB 2 false], [], []⟩ (.cons (Z82 h36) (cb h37 .nil)) ?_
          cases h; exact Wc.ret dn
      · refine Wc.cF h35 ?_
        apply Wc.seq
        refine Wc.r0 ⟨[tP 1 1, tB 53 (v9.gKind == 4)], [bC 1 (GTerm.q v9)], []⟩ ?_
        rcases oif h with ⟨h39, h⟩ | ⟨h39, h⟩
        · refine Wc.cT h39 ?_
          apply Wc.seq
          obtain ⟨ua6, h40, h⟩ := Z0 h
          rcases oif h with ⟨h41, h⟩ | ⟨h41, h⟩
          · rcases oif h with ⟨h42, h⟩ | ⟨h42, h⟩
            · obtain ⟨udf, h43, h⟩ := Z0 h
              refine Wc.r2 [{}, {}, { r := some (.v (.bool ua6) []) }, rT, {}, {}, {}, {}, rT, {}, {}, { v := some (aI (v9.gKids.length : Int)) }, { r := some (.v (.bool udf) []) }] ⟨[tB 2 udf], [], []⟩ (.cons (Z74 h40) (cb h41 (cb h42 (.cons (Zn GTerm.c v9.gKids) (.cons (Z82 h43) .nil))))) ?_
              cases h; exact Wc.ret dn
            · refine Wc.r2 [{}, {}, { r := some (.v (.bool ua6) []) }, rT, {}, {}, {}, {}, rF] ⟨[tB 2 false], [], []⟩ (.cons (Z74 h40) (cb h41 (cb h42 .nil))) ?_
              cases h; exact Wc.ret dn
          · refine Wc.r2 [{}, {}, { r := some (.v (.bool ua6) []) }, rF] ⟨[tB 2 false], [], []⟩ (.cons (Z74 h40) (cb h41 .nil)) ?_
            cases h; exact Wc.ret dn
        · refine Wc.cF h39 ?_
          refine Wc.fx [] ⟨[], [], []⟩ ?_
          refine Wc.skip ?_
          apply Wc.seq
          refine Wc.r0 ⟨[tB 2 false], [], []⟩ ?_
          cases h; exact Wc.ret dn

def Z5t (k : Nat) (Zbp : GTerm → Int → Option Bool) (zf : GTerm) (u0e : Int) : Nat → Int → Option (Out Bool Unit)
  | 0, _ => none
  | m + 1, u3z =>
    if (decide (u3z < (zf.gKids.length : Int))) = true then
      (at' zf.gKids u3z).bind fun ua7 =>
      (Zbp ua7 (wr.i64 (u0e + 1))).bind fun udg =>
      if (!udg) = true then
        some (.ret false)
      else
        Z5t k Zbp zf u0e m (wr.i64 (u3z + 1))
    else
      some (.done ())
mutual
def Z4n : Nat → GTerm → Int → Option Bool
  | 0, _, _ => none
  | k + 1, zf, u0e =>
    if (decide (u0e > 40)) = true then
      some false
    else
      (Zap k zf).bind fun udh =>
      if (!udh) = true then
        some false
      else
        (Z5t k (Z4n k) zf u0e k 0).bind fun out1 => match out1 with
        | .ret r => some r
        | .done () =>
          some true
end
theorem Zgp : ∀ k : Nat, (∀ {zf : GTerm} {u0e : Int} {r : Bool}, Z4n k zf u0e = some r → FnO Tryz.prog 21 [.v (.agg (GTerm.q zf)) [], .v (aI u0e) []] (.v (.bool r) []) []) := by
  intro k
  induction k with
  | zero =>
    · intro zf u0e r h
      exact (Z1r (by rw [Z4n] at h; exact h)).elim
  | succ k ih =>
    have Zgv := @ih
    · intro zf u0e r h
      rw [Z4n] at h
      refine FnO.o2 Tryz.func21 (rfl : Tryz.f21.body = some _) ?_
      intro w0 X0 Fin pv0 pb gt
      apply Wc.seq
      refine Wc.r0 ⟨[tI 1 u0e, tP 2 2], [bC 2 (GTerm.q zf)], []⟩ ?_
      apply Wc.seq
      apply Wc.seq
      rcases oif h with ⟨h44, h⟩ | ⟨h44, h⟩
      · refine Wc.r2 [{}, {}, rT] ⟨[tI 1 u0e, tP 2 2, tB 12 true], [bC 2 (GTerm.q zf)], []⟩ (cb h44 .nil) ?_
        refine Wc.cT rfl ?_
        apply Wc.seq
        refine Wc.r0 ⟨[tB 4 false], [], []⟩ ?_
        cases h; exact Wc.ret dn
      · obtain ⟨udh, h45, h⟩ := Z0 h
        refine Wc.r2 [{}, {}, rF, {}, { r := some (.v (.bool udh) []) }] ⟨[tI 1 u0e, tP 2 2, tB 12 (!udh)], [bC 2 (GTerm.q zf)], []⟩ (cb h44 (.cons (Zqx h45) .nil)) ?_
        rcases oif h with ⟨h46, h⟩ | ⟨h46, h⟩
        · refine Wc.cT h46 ?_
          apply Wc.seq
          refine Wc.r0 ⟨[tB 4 false], [], []⟩ ?_
          cases h; exact Wc.ret dn
        · refine Wc.cF h46 ?_
          refine Wc.fx [] ⟨[tI 1 u0e, tP 2 2], [bC 2 (GTerm.q zf)], []⟩ ?_
          refine Wc.skip ?_
          apply Wc.seq
          apply Wc.seq
          refine Wc.r0 ⟨[tI 1 u0e, tP 2 2, tI 5 0], [bC 2 (GTerm.q zf)], []⟩ ?_
          obtain ⟨out1, h47, h⟩ := Z0 h
          refine Wc.lastJ (fun st => out1 = .done () ∧ st = ⟨[], [], []⟩) ?_ ?_
          · refine Wc.block ?_
            refine Wc.loop (fun m st => ∃ (u3z : Int), st = ⟨[tI 1 u0e, tP 2 2, tI 5 u3z], [bC 2 (GTerm.q zf)], []⟩ ∧ Z5t k (Z4n k) zf u0e m u3z = some out1) ?_ k ⟨_, rfl, h47⟩
            rintro m st ⟨u3z, rfl, h47⟩
            cases m with
            | zero => exact (Z1r h47).elim
            | succ m =>
              apply Wc.seq
              apply Wc.seq
              refine Wc.r2 [{}, {}, {}, { v := some (aI (zf.gKids.length : Int)) }] ⟨[tI 1 u0e, tP 2 2, tI 5 u3z, tB 17 (decide (u3z < (zf.gKids.length : Int)))], [bC 2 (GTerm.q zf)], []⟩ (.cons (Zn GTerm.c zf.gKids) .nil) ?_
              rcases oif h47 with ⟨h48, h47⟩ | ⟨h48, h47⟩
              · refine Wc.cT h48 ?_
                refine Wc.fx [] ⟨[tI 1 u0e, tP 2 2, tI 5 u3z], [bC 2 (GTerm.q zf)], []⟩ ?_
                refine Wc.skip ?_
                apply Wc.seq
                refine Wc.block ?_
                apply Wc.seq
                obtain ⟨ua7, h49, h47⟩ := Z0 h47
                obtain ⟨udg, h50, h47⟩ := Z0 h47
                refine Wc.r2 [{}, {}, {}, { v := some (.vptr (GTerm.q ua7)) }, {}, {}, {}, { r := some (.v (.bool udg) []) }] ⟨[tI 1 u0e, tP 2 2, tI 5 u3z, tB 28 (!udg)], [bC 2 (GTerm.q zf)], []⟩ (.cons (Z19 (c := GTerm.c) (GTerm.c_eq ua7) GTerm.c_len h49) (.cons (Z18 4 (GTerm.q ua7)) (.cons (Zgv h50) .nil))) ?_
                rcases oif h47 with ⟨h51, h47⟩ | ⟨h51, h47⟩
                · refine Wc.cT h51 ?_
                  apply Wc.seq
                  refine Wc.r0 ⟨[tB 4 false], [], []⟩ ?_
                  refine Wc.ret ?_
                  cases h47
                  cases h
                  exact ⟨.inl rfl, by kernel_rfl, by kernel_rfl⟩
                · refine Wc.cF h51 ?_
                  refine Wc.fx [] ⟨[tI 1 u0e, tP 2 2, tI 5 u3z], [bC 2 (GTerm.q zf)], []⟩ ?_
                  refine Wc.skip ?_
                  refine Wc.r0 ⟨[tI 1 u0e, tP 2 2, tI 5 (wr.i64 (u3z + 1))], [bC 2 (GTerm.q zf)], []⟩ ?_
                  exact ⟨_, Nat.lt_succ_self _, _, rfl, h47⟩
              · refine Wc.cF h48 ?_
                refine Wc.fx [] ⟨[], [], []⟩ ?_
                refine Wc.exit ?_
                cases h47
                exact ⟨rfl, rfl⟩
          · rintro st ⟨rfl, rfl⟩
            apply Wc.seq
            refine Wc.r0 ⟨[tB 4 true], [], []⟩ ?_
            cases h; exact Wc.ret dn
theorem Zml {k : Nat} {zf : GTerm} {u0e : Int} {r : Bool} (h : Z4n k zf u0e = some r) : FnO Tryz.prog 21 [.v (.agg (GTerm.q zf)) [], .v (aI u0e) []] (.v (.bool r) []) [] := (Zgp k) h

def Z8e (k : Nat) (u87 : GTerm) : Option Bool :=
  (Z4o k u87 400).bind fun udi =>
  if (decide (udi ≥ 0)) = true then
    (Z4n k u87 1).bind fun udj =>
    some udj
  else
    some false
theorem Zgl {k : Nat} {u87 : GTerm} {r : Bool} (h : Z8e k u87 = some r) : FnO Tryz.prog 10 [.v (.agg (GTerm.q u87)) []] (.v (.bool r) []) [] := by
  refine FnO.o2 Tryz.func10 (rfl : Tryz.f10.body = some _) ?_
  intro w0 X0 Fin pv0 pb gt
  unfold Z8e at h
  apply Wc.seq
  refine Wc.r0 ⟨[tP 1 1], [bC 1 (GTerm.q u87)], []⟩ ?_
  apply Wc.seq
  obtain ⟨udi, h52, h⟩ := Z0 h
  rcases oif h with ⟨h53, h⟩ | ⟨h53, h⟩
  · obtain ⟨udj, h54, h⟩ := Z0 h
    refine Wc.r2 [{}, { r := some (.v (aI udi) []) }, {}, rT, {}, { r := some (.v (.bool udj) []) }] ⟨[tB 2 udj], [], []⟩ (.cons (Zgk h52) (cb h53 (.cons (Zml h54) .nil))) ?_
    cases h; exact Wc.ret dn
  · refine Wc.r2 [{}, { r := some (.v (aI udi) []) }, {}, rF] ⟨[tB 2 false], [], []⟩ (.cons (Zgk h52) (cb h53 .nil)) ?_
    cases h; exact Wc.ret dn

def Z2p (k : Nat) (u6h : Int) : Option Bool :=
  if (u6h == 32) = true then
    some true
  else
    if (u6h == 9) = true then
      some true
    else
      some (u6h == 10)
theorem Z8n {k : Nat} {u6h : Int} {r : Bool} (h : Z2p k u6h = some r) : FnO Tryz.prog 36 [.v (.int .u8 u6h) []] (.v (.bool r) []) [] := by
  refine FnO.o2 Tryz.func36 (rfl : Tryz.f36.body = some _) ?_
  intro w0 X0 Fin pv0 pb gt
  unfold Z2p at h
  apply Wc.seq
  refine Wc.r0 ⟨[tV 0 (.int .u8 u6h)], [], []⟩ ?_
  apply Wc.seq
  rcases oif h with ⟨h55, h⟩ | ⟨h55, h⟩
  · refine Wc.r2 [{}, {}, rT] ⟨[tB 2 true], [], []⟩ (cb h55 .nil) ?_
    cases h; exact Wc.ret dn
  · rcases oif h with ⟨h56, h⟩ | ⟨h56, h⟩
    · refine Wc.r2 [{}, {}, rF, {}, {}, {}, rT] ⟨[tB 2 true], [], []⟩ (cb h55 (cb h56 .nil)) ?_
      cases h; exact Wc.ret dn
    · refine Wc.r2 [{}, {}, rF, {}, {}, {}, rF] ⟨[tB 2 (u6h == 10)], [], []⟩ (cb h55 (cb h56 .nil)) ?_
      cases h; exact Wc.ret dn

def Z6z (k : Nat) (u78 : Int) : Option Bool :=
  if (decide (u78 ≥ 97)) = true then
    some (decide (u78 ≤ 122))
  else
    some false
theorem Z8m {k : Nat} {u78 : Int} {r : Bool} (h : Z6z k u78 = some r) : FnO Tryz.prog 63 [.v (.int .u8 u78) []] (.v (.bool r) []) [] := by
  refine FnO.o2 Tryz.func63 (rfl : Tryz.f63.body = some _) ?_
  intro w0 X0 Fin pv0 pb gt
  unfold Z6z at h
  apply Wc.seq
  refine Wc.r0 ⟨[tV 0 (.int .u8 u78)], [], []⟩ ?_
  apply Wc.seq
  rcases oif h with ⟨h57, h⟩ | ⟨h57, h⟩
  · refine Wc.r2 [{}, {}, rT] ⟨[tB 2 (decide (u78 ≤ 122))], [], []⟩ (cb h57 .nil) ?_
    cases h; exact Wc.ret dn
  · refine Wc.r2 [{}, {}, rF] ⟨[tB 2 false], [], []⟩ (cb h57 .nil) ?_
    cases h; exact Wc.ret dn

def Z63 (k : Nat) (u5g : Int) : Option Bool :=
  if (decide (u5g ≥ 65)) = true then
    if (decide (u5g ≤ 90)) = true then
      some true
    else
      some (u5g == 95)
  else
    some (u5g == 95)
theorem Zaa {k : Nat} {u5g : Int} {r : Bool} (h : Z63 k u5g = some r) : FnO Tryz.prog 64 [.v (.int .u8 u5g) []] (.v (.bool r) []) [] := by
  refine FnO.o2 Tryz.func64 (rfl : Tryz.f64.body = some _) ?_
  intro w0 X0 Fin pv0 pb gt
  unfold Z63 at h
  apply Wc.seq
  refine Wc.r0 ⟨[tV 0 (.int .u8 u5g)], [], []⟩ ?_
  apply Wc.seq
  rcases oif h with ⟨h58, h⟩ | ⟨h58, h⟩
  · rcases oif h with ⟨h59, h⟩ | ⟨h59, h⟩
    · refine Wc.r2 [{}, {}, rT, {}, {}, {}, rT] ⟨[tB 2 true], [], []⟩ (cb h58 (cb h59 .nil)) ?_
      cases h; exact Wc.ret dn
    · refine Wc.r2 [{}, {}, rT, {}, {}, {}, rF] ⟨[tB 2 (u5g == 95)], [], []⟩ (cb h58 (cb h59 .nil)) ?_
      cases h; exact Wc.ret dn
  · refine Wc.r2 [{}, {}, rF] ⟨[tB 2 (u5g == 95)], [], []⟩ (cb h58 .nil) ?_
    cases h; exact Wc.ret dn

def Z5f (k : Nat) (u79 : Int) : Option Bool :=
  if (decide (u79 ≥ 48)) = true then
    some (decide (u79 ≤ 57))
  else
    some false
theorem Z8y {k : Nat} {u79 : Int} {r : Bool} (h : Z5f k u79 = some r) : FnO Tryz.prog 66 [.v (.int .u8 u79) []] (.v (.bool r) []) [] := by
  refine FnO.o2 Tryz.func66 (rfl : Tryz.f66.body = some _) ?_
  intro w0 X0 Fin pv0 pb gt
  unfold Z5f at h
  apply Wc.seq
  refine Wc.r0 ⟨[tV 0 (.int .u8 u79)], [], []⟩ ?_
  apply Wc.seq
  rcases oif h with ⟨h60, h⟩ | ⟨h60, h⟩
  · refine Wc.r2 [{}, {}, rT] ⟨[tB 2 (decide (u79 ≤ 57))], [], []⟩ (cb h60 .nil) ?_
    cases h; exact Wc.ret dn
  · refine Wc.r2 [{}, {}, rF] ⟨[tB 2 false], [], []⟩ (cb h60 .nil) ?_
    cases h; exact Wc.ret dn

def Z9e (k : Nat) (u7a : Int) : Option Bool :=
  (Z6z k u7a).bind fun ua8 =>
  if ua8 = true then
    some true
  else
    (Z63 k u7a).bind fun udk =>
    if udk = true then
      some true
    else
      (Z5f k u7a).bind fun udl =>
      some udl
theorem Zoi {k : Nat} {u7a : Int} {r : Bool} (h : Z9e k u7a = some r) : FnO Tryz.prog 95 [.v (.int .u8 u7a) []] (.v (.bool r) []) [] := by
  refine FnO.o2 Tryz.func95 (rfl : Tryz.f95.body = some _) ?_
  intro w0 X0 Fin pv0 pb gt
  unfold Z9e at h
  apply Wc.seq
  refine Wc.r0 ⟨[tV 0 (.int .u8 u7a)], [], []⟩ ?_
  apply Wc.seq
  obtain ⟨ua8, h61, h⟩ := Z0 h
  rcases oif h with ⟨h62, h⟩ | ⟨h62, h⟩
  · refine Wc.r2 [{}, { r := some (.v (.bool ua8) []) }, rT] ⟨[tB 2 true], [], []⟩ (.cons (Z8m h61) (cb h62 .nil)) ?_
    cases h; exact Wc.ret dn
  · obtain ⟨udk, h63, h⟩ := Z0 h
    rcases oif h with ⟨h64, h⟩ | ⟨h64, h⟩
    · refine Wc.r2 [{}, { r := some (.v (.bool ua8) []) }, rF, {}, { r := some (.v (.bool udk) []) }, {}, rT] ⟨[tB 2 true], [], []⟩ (.cons (Z8m h61) (cb h62 (.cons (Zaa h63) (cb h64 .nil)))) ?_
      cases h; exact Wc.ret dn
    · obtain ⟨udl, h65, h⟩ := Z0 h
      refine Wc.r2 [{}, { r := some (.v (.bool ua8) []) }, rF, {}, { r := some (.v (.bool udk) []) }, {}, rF, {}, { r := some (.v (.bool udl) []) }] ⟨[tB 2 udl], [], []⟩ (.cons (Z8m h61) (cb h62 (.cons (Zaa h63) (cb h64 (.cons (Z8y h65) .nil))))) ?_
      cases h; exact Wc.ret dn

def Z7h (k : Nat) (u2s : ByteArray) : Nat → Int → Option (Out Int Int)
  | 0, _ => none
  | m + 1, u2b =>
    if (decide (u2b < (u2s.size : Int))) = true then
      if 0 ≤ u2b ∧ (u2b).toNat < u2s.size then
        (Z9e k (bt u2s u2b)).bind fun udm =>
        if udm = true then
          Z7h k u2s m (wr.i64 (u2b + 1))
        else
          some (.done u2b)
      else none
    else
      some (.done u2b)
def Zcn (k : Nat) (u2s : ByteArray) (ua9 : Int) : Option Int :=
  (Z7h k u2s k ua9).bind fun out1 => match out1 with
  | .ret r => some r
  | .done u88 =>
    some u88
theorem Zqv {k : Nat} {u2s : ByteArray} {ua9 : Int} {r : Int} (h : Zcn k u2s ua9 = some r) : FnO Tryz.prog 65 [.v (.str u2s) [], .v (aI ua9) []] (.v (aI r) []) [] := by
  refine FnO.o2 Tryz.func65 (rfl : Tryz.f65.body = some _) ?_
  intro w0 X0 Fin pv0 pb gt
  unfold Zcn at h
  apply Wc.seq
  refine Wc.r0 ⟨[tS 0 u2s, tI 1 ua9], [], []⟩ ?_
  obtain ⟨out1, h66, h⟩ := Z0 h
  refine Wc.seqJ (fun st => ∃ (u88 : Int), out1 = .done u88 ∧ st = ⟨[tI 1 u88], [], []⟩) ?_ ?_
  · refine Wc.block ?_
    refine Wc.loop (fun m st => ∃ (u2b : Int), st = ⟨[tS 0 u2s, tI 1 u2b], [], []⟩ ∧ Z7h k u2s m u2b = some out1) ?_ k ⟨_, rfl, h66⟩
    rintro m st ⟨u2b, rfl, h66⟩
    cases m with
    | zero => exact (Z1r h66).elim
    | succ m =>
      apply Wc.seq
      apply Wc.seq
      rcases oif h66 with ⟨h67, h66⟩ | ⟨h67, h66⟩
      · obtain ⟨h68, h66⟩ := Zg h66
        obtain ⟨udm, h69, h66⟩ := Z0 h66
        refine Wc.r2 [{}, {}, {}, {}, rT, {}, {}, {}, { r := some (.v (.bool udm) []) }] ⟨[tS 0 u2s, tI 1 u2b, tB 14 udm], [], []⟩ (cb h67 (.cons h68 (.cons (Zoi h69) .nil))) ?_
        rcases oif h66 with ⟨h70, h66⟩ | ⟨h70, h66⟩
        · refine Wc.cT h70 ?_
          refine Wc.fx [] ⟨[tS 0 u2s, tI 1 u2b], [], []⟩ ?_
          refine Wc.skip ?_
          refine Wc.block ?_
          refine Wc.r0 ⟨[tS 0 u2s, tI 1 (wr.i64 (u2b + 1))], [], []⟩ ?_
          exact ⟨_, Nat.lt_succ_self _, _, rfl, h66⟩
        · refine Wc.cF h70 ?_
          refine Wc.fx [] ⟨[tI 1 u2b], [], []⟩ ?_
          refine Wc.exit ?_
          cases h66
          exact ⟨_, rfl, rfl⟩
      · refine Wc.r2 [{}, {}, {}, {}, rF] ⟨[tS 0 u2s, tI 1 u2b, tB 14 false], [], []⟩ (cb h67 .nil) ?_
        refine Wc.cF rfl ?_
        refine Wc.fx [] ⟨[tI 1 u2b], [], []⟩ ?_
        refine Wc.exit ?_
        cases h66
        exact ⟨_, rfl, rfl⟩
  · rintro st ⟨u88, rfl, rfl⟩
    apply Wc.seq
    refine Wc.r0 ⟨[tI 4 u88], [], []⟩ ?_
    cases h; exact Wc.ret dn

def Z5e (k : Nat) (u0y : ByteArray) (u1n : Int) : Nat → Int → Option (Out Int Unit)
  | 0, _ => none
  | m + 1, u0z =>
    if (decide (u0z < (u0y.size : Int))) = true then
      if 0 ≤ u0z ∧ (u0z).toNat < u0y.size then
        if ((bt u0y u0z) == 39) = true then
          if 0 ≤ (wr.i64 (u1n + 1)) ∧ (wr.i64 (u1n + 1)) ≤ u0z ∧ u0z ≤ (u0y.size : Int) then
            (Z70 k (u0y.extract ((wr.i64 (u1n + 1)) : Int).toNat (u0z : Int).toNat)).bind fun udn =>
            if udn = true then
              some (.ret (wr.i64 (u0z + 1)))
            else
              some (.ret 0)
          else none
        else
          Z5e k u0y u1n m (wr.i64 (u0z + 1))
      else none
    else
      some (.done ())
def Z7i (k : Nat) (u0y : ByteArray) (u1n : Int) : Option Int :=
  (Z5e k u0y u1n k (wr.i64 (u1n + 1))).bind fun out1 => match out1 with
  | .ret r => some r
  | .done () =>
    some 0
theorem Zky {k : Nat} {u0y : ByteArray} {u1n : Int} {r : Int} (h : Z7i k u0y u1n = some r) : FnO Tryz.prog 67 [.v (.str u0y) [], .v (aI u1n) []] (.v (aI r) []) [] := by
  refine FnO.o2 Tryz.func67 (rfl : Tryz.f67.body = some _) ?_
  intro w0 X0 Fin pv0 pb gt
  unfold Z7i at h
  apply Wc.seq
  refine Wc.r0 ⟨[tS 0 u0y, tI 1 u1n], [], []⟩ ?_
  apply Wc.seq
  apply Wc.seq
  refine Wc.r0 ⟨[tS 0 u0y, tI 1 u1n, tI 5 (wr.i64 (u1n + 1))], [], []⟩ ?_
  obtain ⟨out1, h71, h⟩ := Z0 h
  refine Wc.lastJ (fun st => out1 = .done () ∧ st = ⟨[], [], []⟩) ?_ ?_
  · refine Wc.block ?_
    refine Wc.loop (fun m st => ∃ (u0z : Int), st = ⟨[tS 0 u0y, tI 1 u1n, tI 5 u0z], [], []⟩ ∧ Z5e k u0y u1n m u0z = some out1) ?_ k ⟨_, rfl, h71⟩
    rintro m st ⟨u0z, rfl, h71⟩
    cases m with
    | zero => exact (Z1r h71).elim
    | succ m =>
      apply Wc.seq
      apply Wc.seq
      refine Wc.r0 ⟨[tS 0 u0y, tI 1 u1n, tI 5 u0z, tB 11 (decide (u0z < (u0y.size : Int)))], [], []⟩ ?_
      rcases oif h71 with ⟨h72, h71⟩ | ⟨h72, h71⟩
      · refine Wc.cT h72 ?_
        refine Wc.fx [] ⟨[tS 0 u0y, tI 1 u1n, tI 5 u0z], [], []⟩ ?_
        refine Wc.skip ?_
        apply Wc.seq
        refine Wc.block ?_
        apply Wc.seq
        obtain ⟨h73, h71⟩ := Zg h71
        refine Wc.r2 [] ⟨[tS 0 u0y, tI 1 u1n, tI 5 u0z, tB 17 ((bt u0y u0z) == 39)], [], []⟩ (.cons h73 .nil) ?_
        rcases oif h71 with ⟨h74, h71⟩ | ⟨h74, h71⟩
        · refine Wc.cT h74 ?_
          apply Wc.seq
          apply Wc.seq
          obtain ⟨h75, h71⟩ := Zg h71
          obtain ⟨udn, h76, h71⟩ := Z0 h71
          refine Wc.r2 [{}, {}, {}, {}, {}, { r := some (.v (.bool udn) []) }] ⟨[tI 5 u0z, tB 23 udn], [], []⟩ (.cons h75 (.cons (Z74 h76) .nil)) ?_
          rcases oif h71 with ⟨h77, h71⟩ | ⟨h77, h71⟩
          · refine Wc.cT h77 ?_
            apply Wc.seq
            refine Wc.r0 ⟨[tI 4 (wr.i64 (u0z + 1))], [], []⟩ ?_
            refine Wc.ret ?_
            cases h71
            cases h
            exact ⟨.inl rfl, by kernel_rfl, by kernel_rfl⟩
          · refine Wc.cF h77 ?_
            refine Wc.fx [] ⟨[], [], []⟩ ?_
            refine Wc.skip ?_
            apply Wc.seq
            refine Wc.r0 ⟨[tI 4 0], [], []⟩ ?_
            refine Wc.ret ?_
            cases h71
            cases h
            exact ⟨.inl rfl, by kernel_rfl, by kernel_rfl⟩
        · refine Wc.cF h74 ?_
          refine Wc.fx [] ⟨[tS 0 u0y, tI 1 u1n, tI 5 u0z], [], []⟩ ?_
          refine Wc.skip ?_
          refine Wc.r0 ⟨[tS 0 u0y, tI 1 u1n, tI 5 (wr.i64 (u0z + 1))], [], []⟩ ?_
          exact ⟨_, Nat.lt_succ_self _, _, rfl, h71⟩
      · refine Wc.cF h72 ?_
        refine Wc.fx [] ⟨[], [], []⟩ ?_
        refine Wc.exit ?_
        cases h71
        exact ⟨rfl, rfl⟩
  · rintro st ⟨rfl, rfl⟩
    apply Wc.seq
    refine Wc.r0 ⟨[tI 4 0], [], []⟩ ?_
    cases h; exact Wc.ret dn

def Z7u (k : Nat) (u1y : Int) : Nat → Int → Option (Out Bool Unit)
  | 0, _ => none
  | m + 1, u2t =>
    if (decide (u2t < ((bs [43, 45, 42, 47, 92, 94, 60, 62, 61, 126, 58, 46, 63, 64, 35, 38, 36]).size : Int))) = true then
      if 0 ≤ u2t ∧ (u2t).toNat < (bs [43, 45, 42, 47, 92, 94, 60, 62, 61, 126, 58, 46, 63, 64, 35, 38, 36]).size then
        if ((bt (bs [43, 45, 42, 47, 92, 94, 60, 62, 61, 126, 58, 46, 63, 64, 35, 38, 36]) u2t) == u1y) = true then
          some (.ret true)
        else
          Z7u k u1y m (wr.i64 (u2t + 1))
      else none
    else
      some (.done ())
def Z4p (k : Nat) (u1y : Int) : Option Bool :=
  (Z7u k u1y k 0).bind fun out1 => match out1 with
  | .ret r => some r
  | .done () =>
    some false
theorem Z5m {k : Nat} {u1y : Int} {r : Bool} (h : Z4p k u1y = some r) : FnO Tryz.prog 69 [.v (.int .u8 u1y) []] (.v (.bool r) []) [] := by
  refine FnO.o2 Tryz.func69 (rfl : Tryz.f69.body = some _) ?_
  intro w0 X0 Fin pv0 pb gt
  unfold Z4p at h
  apply Wc.seq
  refine Wc.r0 ⟨[tV 0 (.int .u8 u1y)], [], []⟩ ?_
  apply Wc.seq
  refine Wc.r0 ⟨[tV 0 (.int .u8 u1y), tS 3 (bs [43, 45, 42, 47, 92, 94, 60, 62, 61, 126, 58, 46, 63, 64, 35, 38, 36])], [], []⟩ ?_
  apply Wc.seq
  apply Wc.seq
  refine Wc.r0 ⟨[tV 0 (.int .u8 u1y), tS 3 (bs [43, 45, 42, 47, 92, 94, 60, 62, 61, 126, 58, 46, 63, 64, 35, 38, 36]), tI 4 0], [], []⟩ ?_
  obtain ⟨out1, h78, h⟩ := Z0 h
  refine Wc.lastJ (fun st => out1 = .done () ∧ st = ⟨[], [], []⟩) ?_ ?_
  · refine Wc.block ?_
    refine Wc.loop (fun m st => ∃ (u2t : Int), st = ⟨[tV 0 (.int .u8 u1y), tS 3 (bs [43, 45, 42, 47, 92, 94, 60, 62, 61, 126, 58, 46, 63, 64, 35, 38, 36]), tI 4 u2t], [], []⟩ ∧ Z7u k u1y m u2t = some out1) ?_ k ⟨_, rfl, h78⟩
    rintro m st ⟨u2t, rfl, h78⟩
    cases m with
    | zero => exact (Z1r h78).elim
    | succ m =>
      apply Wc.seq
      apply Wc.seq
      refine Wc.r0 ⟨[tV 0 (.int .u8 u1y), tS 3 (bs [43, 45, 42, 47, 92, 94, 60, 62, 61, 126, 58, 46, 63, 64, 35, 38, 36]), tI 4 u2t, tB 8 (decide (u2t < ((bs [43, 45, 42, 47, 92, 94, 60, 62, 61, 126, 58, 46, 63, 64, 35, 38, 36]).size : Int)))], [], []⟩ ?_
      rcases oif h78 with ⟨h79, h78⟩ | ⟨h79, h78⟩
      · refine Wc.cT h79 ?_
        refine Wc.fx [] ⟨[tV 0 (.int .u8 u1y), tS 3 (bs [43, 45, 42, 47, 92, 94, 60, 62, 61, 126, 58, 46, 63, 64, 35, 38, 36]), tI 4 u2t], [], []⟩ ?_
        refine Wc.skip ?_
        apply Wc.seq
        refine Wc.block ?_
        apply Wc.seq
        obtain ⟨h80, h78⟩ := Zg h78
        refine Wc.r2 [] ⟨[tV 0 (.int .u8 u1y), tS 3 (bs [43, 45, 42, 47, 92, 94, 60, 62, 61, 126, 58, 46, 63, 64, 35, 38, 36]), tI 4 u2t, tB 15 ((bt (bs [43, 45, 42, 47, 92, 94, 60, 62, 61, 126, 58, 46, 63, 64, 35, 38, 36]) u2t) == u1y)], [], []⟩ (.cons h80 .nil) ?_
        rcases oif h78 with ⟨h81, h78⟩ | ⟨h81, h78⟩
        · refine Wc.cT h81 ?_
          apply Wc.seq
          refine Wc.r0 ⟨[tB 2 true], [], []⟩ ?_
          refine Wc.ret ?_
          cases h78
          cases h
          exact ⟨.inl rfl, by kernel_rfl, by kernel_rfl⟩
        · refine Wc.cF h81 ?_
          refine Wc.fx [] ⟨[tV 0 (.int .u8 u1y), tS 3 (bs [43, 45, 42, 47, 92, 94, 60, 62, 61, 126, 58, 46, 63, 64, 35, 38, 36]), tI 4 u2t], [], []⟩ ?_
          refine Wc.skip ?_
          refine Wc.r0 ⟨[tV 0 (.int .u8 u1y), tS 3 (bs [43, 45, 42, 47, 92, 94, 60, 62, 61, 126, 58, 46, 63, 64, 35, 38, 36]), tI 4 (wr.i64 (u2t + 1))], [], []⟩ ?_
          exact ⟨_, Nat.lt_succ_self _, _, rfl, h78⟩
      · refine Wc.cF h79 ?_
        refine Wc.fx [] ⟨[], [], []⟩ ?_
        refine Wc.exit ?_
        cases h78
        exact ⟨rfl, rfl⟩
  · rintro st ⟨rfl, rfl⟩
    apply Wc.seq
    refine Wc.r0 ⟨[tB 2 false], [], []⟩ ?_
    cases h; exact Wc.ret dn

def Zam (k : Nat) (u1o : ByteArray) (zw : Int) : Option Bool :=
  if 0 ≤ zw ∧ (zw).toNat < u1o.size then
    if ((bt u1o zw) == 46) = true then
      if (zw == 0) = true then
        if ((wr.i64 (zw + 1)) == (u1o.size : Int)) = true then
          some true
        else
          if 0 ≤ wr.i64 (zw + 1) ∧ (wr.i64 (zw + 1)).toNat < u1o.size then
            (Z2p k (bt u1o (wr.i64 (zw + 1)))).bind fun u55 =>
            if u55 = true then
              some true
            else
              if 0 ≤ wr.i64 (zw + 1) ∧ (wr.i64 (zw + 1)).toNat < u1o.size then
                some ((bt u1o (wr.i64 (zw + 1))) == 37)
              else none
          else none
      else
        if 0 ≤ wr.i64 (zw - 1) ∧ (wr.i64 (zw - 1)).toNat < u1o.size then
          (Z4p k (bt u1o (wr.i64 (zw - 1)))).bind fun u55 =>
          if (!u55) = true then
            if ((wr.i64 (zw + 1)) == (u1o.size : Int)) = true then
              some true
            else
              if 0 ≤ wr.i64 (zw + 1) ∧ (wr.i64 (zw + 1)).toNat < u1o.size then
                (Z2p k (bt u1o (wr.i64 (zw + 1)))).bind fun udo =>
                if udo = true then
                  some true
                else
                  if 0 ≤ wr.i64 (zw + 1) ∧ (wr.i64 (zw + 1)).toNat < u1o.size then
                    some ((bt u1o (wr.i64 (zw + 1))) == 37)
                  else none
              else none
          else
            some false
        else none
    else
      some false
  else none
theorem Zqw {k : Nat} {u1o : ByteArray} {zw : Int} {r : Bool} (h : Zam k u1o zw = some r) : FnO Tryz.prog 68 [.v (.str u1o) [], .v (aI zw) []] (.v (.bool r) []) [] := by
  refine FnO.o2 Tryz.func68 (rfl : Tryz.f68.body = some _) ?_
  intro w0 X0 Fin pv0 pb gt
  unfold Zam at h
  apply Wc.seq
  refine Wc.r0 ⟨[tS 0 u1o, tI 1 zw], [], []⟩ ?_
  apply Wc.seq
  obtain ⟨h82, h⟩ := Zg h
  rcases oif h with ⟨h83, h⟩ | ⟨h83, h⟩
  · rcases oif h with ⟨h84, h⟩ | ⟨h84, h⟩
    · rcases oif h with ⟨h85, h⟩ | ⟨h85, h⟩
      · refine Wc.r2 [{}, {}, {}, {}, rT, {}, {}, rT, {}, {}, {}, {}, {}, {}, {}, {}, {}, {}, {}, {}, {}, {}, rT] ⟨[tB 4 true], [], []⟩ (.cons h82 (cb h83 (cb h84 (cb h85 .nil)))) ?_
        cases h; exact Wc.ret dn
      · obtain ⟨h86, h⟩ := Zg h
        obtain ⟨u55, h87, h⟩ := Z0 h
        rcases oif h with ⟨h88, h⟩ | ⟨h88, h⟩
        · refine Wc.r2 [{}, {}, {}, {}, rT, {}, {}, rT, {}, {}, {}, {}, {}, {}, {}, {}, {}, {}, {}, {}, {}, {}, rF, {}, {}, {}, {}, { r := some (.v (.bool u55) []) }, {}, rT] ⟨[tB 4 true], [], []⟩ (.cons h82 (cb h83 (cb h84 (cb h85 (.cons h86 (.cons (Z8n h87) (cb h88 .nil))))))) ?_
          cases h; exact Wc.ret dn
        · obtain ⟨h89, h⟩ := Zg h
          refine Wc.r2 [{}, {}, {}, {}, rT, {}, {}, rT, {}, {}, {}, {}, {}, {}, {}, {}, {}, {}, {}, {}, {}, {}, rF, {}, {}, {}, {}, { r := some (.v (.bool u55) []) }, {}, rF] ⟨[tB 4 ((bt u1o (wr.i64 (zw + 1))) == 37)], [], []⟩ (.cons h82 (cb h83 (cb h84 (cb h85 (.cons h86 (.cons (Z8n h87) (cb h88 (.cons h89 .nil)))))))) ?_
          cases h; exact Wc.ret dn
    · obtain ⟨h85, h⟩ := Zg h
      obtain ⟨u55, h86, h⟩ := Z0 h
      rcases oif h with ⟨h87, h⟩ | ⟨h87, h⟩
      · rcases oif h with ⟨h88, h⟩ | ⟨h88, h⟩
        · refine Wc.r2 [{}, {}, {}, {}, rT, {}, {}, rF, {}, {}, {}, {}, { r := some (.v (.bool u55) []) }, {}, {}, {}, rT, {}, {}, {}, {}, {}, rT] ⟨[tB 4 true], [], []⟩ (.cons h82 (cb h83 (cb h84 (.cons h85 (.cons (Z5m h86) (cb h87 (cb h88 .nil))))))) ?_
          cases h; exact Wc.ret dn
        · obtain ⟨h89, h⟩ := Zg h
          obtain ⟨udo, h90, h⟩ := Z0 h
          rcases oif h with ⟨h91, h⟩ | ⟨h91, h⟩
          · refine Wc.r2 [{}, {}, {}, {}, rT, {}, {}, rF, {}, {}, {}, {}, { r := some (.v (.bool u55) []) }, {}, {}, {}, rT, {}, {}, {}, {}, {}, rF, {}, {}, {}, {}, { r := some (.v (.bool udo) []) }, {}, rT] ⟨[tB 4 true], [], []⟩ (.cons h82 (cb h83 (cb h84 (.cons h85 (.cons (Z5m h86) (cb h87 (cb h88 (.cons h89 (.cons (Z8n h90) (cb h91 .nil)))))))))) ?_
            cases h; exact Wc.ret dn
          · obtain ⟨h92, h⟩ := Zg h
            refine Wc.r2 [{}, {}, {}, {}, rT, {}, {}, rF, {}, {}, {}, {}, { r := some (.v (.bool u55) []) }, {}, {}, {}, rT, {}, {}, {}, {}, {}, rF, {}, {}, {}, {}, { r := some (.v (.bool udo) []) }, {}, rF] ⟨[tB 4 ((bt u1o (wr.i64 (zw + 1))) == 37)], [], []⟩ (.cons h82 (cb h83 (cb h84 (.cons h85 (.cons (Z5m h86) (cb h87 (cb h88 (.cons h89 (.cons (Z8n h90) (cb h91 (.cons h92 .nil))))))))))) ?_
            cases h; exact Wc.ret dn
      · refine Wc.r2 [{}, {}, {}, {}, rT, {}, {}, rF, {}, {}, {}, {}, { r := some (.v (.bool u55) []) }, {}, {}, {}, rF] ⟨[tB 4 false], [], []⟩ (.cons h82 (cb h83 (cb h84 (.cons h85 (.cons (Z5m h86) (cb h87 .nil)))))) ?_
        cases h; exact Wc.ret dn
  · refine Wc.r2 [{}, {}, {}, {}, rF] ⟨[tB 4 false], [], []⟩ (.cons h82 (cb h83 .nil)) ?_
    cases h; exact Wc.ret dn

def Z6i (k : Nat) (u2 : ByteArray) : Nat → Int → Int → Option (Out (GSign × Int) (Int × Int))
  | 0, _, _ => none
  | m + 1, u06, u1v =>
    if (decide (u06 < (u2.size : Int))) = true then
      if 0 ≤ u06 ∧ (u06).toNat < u2.size then
        (Z5f k (bt u2 u06)).bind fun udp =>
        if udp = true then
          if (decide (u1v ≤ 999999999)) = true then
            if 0 ≤ u06 ∧ (u06).toNat < u2.size then
              Z6i k u2 m (wr.i64 (u06 + 1)) (wr.i64 ((wr.i64 ((wr.i64 (10 * u1v)) + (wr.i64 (bt u2 u06)))) - 48))
            else none
          else
            some (.done (u06, u1v))
        else
          some (.done (u06, u1v))
      else none
    else
      some (.done (u06, u1v))
def Z6h (k : Nat) (u2 : ByteArray) : Nat → Int → Option (Out (GSign × Int) Int)
  | 0, _ => none
  | m + 1, u2c =>
    if (decide (u2c < (u2.size : Int))) = true then
      if 0 ≤ u2c ∧ (u2c).toNat < u2.size then
        (Z4p k (bt u2 u2c)).bind fun udq =>
        if udq = true then
          Z6h k u2 m (wr.i64 (u2c + 1))
        else
          some (.done u2c)
      else none
    else
      some (.done u2c)
def Z2o (k : Nat) (u2 : ByteArray) (u0 : Int) (uaa : Bool) : Option (GSign × Int) :=
  if uaa = true then
    some (GSign.mk 4 (u2.extract (u0 : Int).toNat ((wr.i64 (u0 + 1)) : Int).toNat) 0 u0 false, wr.i64 (u0 + 1))
  else
    (Zam k u2 u0).bind fun udr =>
    if udr = true then
      some (GSign.mk 5 (u2.extract (u0 : Int).toNat ((wr.i64 (u0 + 1)) : Int).toNat) 0 u0 false, wr.i64 (u0 + 1))
    else
      (Z4p k (bt u2 u0)).bind fun uds =>
      if uds = true then
        (Z6h k u2 k u0).bind fun out5 => match out5 with
        | .ret r => some r
        | .done u1z =>
          if (decide ((wr.i64 (u1z - u0)) ≤ 20)) = true then
            if 0 ≤ u0 ∧ u0 ≤ u1z ∧ u1z ≤ (u2.size : Int) then
              some (GSign.mk 1 (u2.extract (u0 : Int).toNat (u1z : Int).toNat) 0 u0 false, u1z)
            else none
          else
            some (GSign.mk 6 (u2.extract (u0 : Int).toNat ((wr.i64 (u0 + 1)) : Int).toNat) 0 u0 false, wr.i64 (u0 + 1))
      else
        some (GSign.mk 6 (u2.extract (u0 : Int).toNat ((wr.i64 (u0 + 1)) : Int).toNat) 0 u0 false, wr.i64 (u0 + 1))
def Z44 (k : Nat) (u2 : ByteArray) (u0 : Int) (uab : Bool) : Option (GSign × Int) :=
  if uab = true then
    some (GSign.mk 1 (u2.extract (u0 : Int).toNat ((wr.i64 (u0 + 1)) : Int).toNat) 0 u0 false, wr.i64 (u0 + 1))
  else
    if ((bt u2 u0) == 40) = true then
      Z2o k u2 u0 true
    else
      if ((bt u2 u0) == 41) = true then
        Z2o k u2 u0 true
      else
        if ((bt u2 u0) == 91) = true then
          Z2o k u2 u0 true
        else
          if ((bt u2 u0) == 93) = true then
            Z2o k u2 u0 true
          else
            if ((bt u2 u0) == 44) = true then
              Z2o k u2 u0 true
            else
              Z2o k u2 u0 ((bt u2 u0) == 124)
def Z1s (k : Nat) (u2 : ByteArray) (u0 : Int) (uac : Bool) : Option (GSign × Int) :=
  if uac = true then
    (Zcn k u2 u0).bind fun za =>
    if (decide ((wr.i64 (za - u0)) ≤ 20)) = true then
      (Z63 k (bt u2 u0)).bind fun udt =>
      if udt = true then
        if 0 ≤ u0 ∧ u0 ≤ za ∧ za ≤ (u2.size : Int) then
          some (GSign.mk 2 (u2.extract (u0 : Int).toNat (za : Int).toNat) 0 u0 false, za)
        else none
      else
        if 0 ≤ u0 ∧ u0 ≤ za ∧ za ≤ (u2.size : Int) then
          some (GSign.mk 1 (u2.extract (u0 : Int).toNat (za : Int).toNat) 0 u0 false, za)
        else none
    else
      some (GSign.mk 6 (u2.extract (u0 : Int).toNat ((wr.i64 (u0 + 1)) : Int).toNat) 0 u0 false, wr.i64 (u0 + 1))
  else
    (Z5f k (bt u2 u0)).bind fun udu =>
    if udu = true then
      (Z6i k u2 k u0 0).bind fun out2 => match out2 with
      | .ret r => some r
      | .done (u7b, u60) =>
        if (decide (u60 ≤ 999999999)) = true then
          some (GSign.mk 3 (bs []) u60 u0 false, u7b)
        else
          some (GSign.mk 6 (u2.extract (u0 : Int).toNat ((wr.i64 (u0 + 1)) : Int).toNat) 0 u0 false, wr.i64 (u0 + 1))
    else
      if ((bt u2 u0) == 39) = true then
        (Z7i k u2 u0).bind fun u2u =>
        if (decide (u2u > 0)) = true then
          if 0 ≤ (wr.i64 (u0 + 1)) ∧ (wr.i64 (u0 + 1)) ≤ (wr.i64 (u2u - 1)) ∧ (wr.i64 (u2u - 1)) ≤ (u2.size : Int) then
            some (GSign.mk 1 (u2.extract ((wr.i64 (u0 + 1)) : Int).toNat ((wr.i64 (u2u - 1)) : Int).toNat) 0 u0 false, u2u)
          else none
        else
          some (GSign.mk 6 (u2.extract (u0 : Int).toNat ((wr.i64 (u0 + 1)) : Int).toNat) 0 u0 false, wr.i64 (u0 + 1))
      else
        if ((bt u2 u0) == 33) = true then
          Z44 k u2 u0 true
        else
          Z44 k u2 u0 ((bt u2 u0) == 59)
def Z83 (k : Nat) (u2 : ByteArray) (u0 : Int) : Option (GSign × Int) :=
  if 0 ≤ u0 ∧ (u0).toNat < u2.size then
    if 0 ≤ u0 ∧ u0 ≤ (wr.i64 (u0 + 1)) ∧ (wr.i64 (u0 + 1)) ≤ (u2.size : Int) then
      (Z6z k (bt u2 u0)).bind fun udv =>
      if udv = true then
        Z1s k u2 u0 true
      else
        (Z63 k (bt u2 u0)).bind fun udw =>
        Z1s k u2 u0 udw
    else none
  else none
set_option maxHeartbeats 4000000 in
theorem Zoj {k : Nat} {u2 : ByteArray} {u0 : Int} {r : GSign × Int} (h : Z83 k u2 u0 = some r) : FnO Tryz.prog 37 [.v (.str u2) [], .v (aI u0) []] (.v (.tup [.agg (GSign.q r.1), aI r.2]) []) [] := by
  refine FnO.o2 Tryz.func37 (rfl : Tryz.f37.body = some _) ?_
  intro w0 X0 Fin pv0 pb gt
  unfold Z83 at h
  apply Wc.seq
  refine Wc.r0 ⟨[tS 0 u2, tI 1 u0, tP 4 4], [bC 4 GSign.z], []⟩ ?_
  apply Wc.seq
  obtain ⟨h93, h⟩ := Zg h
  refine Wc.r2 [] ⟨[tS 0 u2, tI 1 u0, tP 4 4, tV 6 (.int .u8 (bt u2 u0))], [bC 4 GSign.z], []⟩ (.cons h93 .nil) ?_
  apply Wc.seq
  obtain ⟨h94, h⟩ := Zg h
  refine Wc.r2 [] ⟨[tS 0 u2, tI 1 u0, tP 4 4, tV 6 (.int .u8 (bt u2 u0)), tP 7 7], [bC 4 GSign.z, bC 7 [aI 6, .str (eX u2 u0), aI 0, aI u0, .bool false]], []⟩ (.cons h94 .nil) ?_
  apply Wc.seq
  refine Wc.r0 ⟨[tS 0 u2, tI 1 u0, tP 4 4, tV 6 (.int .u8 (bt u2 u0)), tP 7 7, tI 8 (wr.i64 (u0 + 1))], [bC 4 GSign.z, bC 7 [aI 6, .str (eX u2 u0), aI 0, aI u0, .bool false]], []⟩ ?_
  apply Wc.seq
  refine Wc.block ?_
  refine Wc.seqJ (fun st => ∃ (uac : Bool), st = ⟨[tS 0 u2, tI 1 u0, tP 4 4, tV 6 (.int .u8 (bt u2 u0)), tP 7 7, tI 8 (wr.i64 (u0 + 1)), tB 26 uac], [bC 4 GSign.z, bC 7 [aI 6, .str (eX u2 u0), aI 0, aI u0, .bool false]], []⟩ ∧ Z1s k u2 u0 uac = some r) ?_ ?_
  · obtain ⟨udv, h135, h⟩ := Z0 h
    rcases oif h with ⟨h136, h⟩ | ⟨h136, h⟩
    · refine Wc.r2 [{}, { r := some (.v (.bool udv) []) }, rT] ⟨[tS 0 u2, tI 1 u0, tP 4 4, tV 6 (.int .u8 (bt u2 u0)), tP 7 7, tI 8 (wr.i64 (u0 + 1)), tB 26 true], [bC 4 GSign.z, bC 7 [aI 6, .str (eX u2 u0), aI 0, aI u0, .bool false]], []⟩ (.cons (Z8m h135) (cb h136 .nil)) ?_
      exact ⟨_, rfl, h⟩
    · obtain ⟨udw, h137, h⟩ := Z0 h
      refine Wc.r2 [{}, { r := some (.v (.bool udv) []) }, rF, {}, { r := some (.v (.bool udw) []) }] ⟨[tS 0 u2, tI 1 u0, tP 4 4, tV 6 (.int .u8 (bt u2 u0)), tP 7 7, tI 8 (wr.i64 (u0 + 1)), tB 26 udw], [bC 4 GSign.z, bC 7 [aI 6, .str (eX u2 u0), aI 0, aI u0, .bool false]], []⟩ (.cons (Z8m h135) (cb h136 (.cons (Zaa h137) .nil))) ?_
      exact ⟨_, rfl, h⟩
  · rintro st ⟨uac, rfl, h⟩
    rcases oif h with ⟨h95, h⟩ | ⟨h95, h⟩
    · refine Wc.cT h95 ?_
      apply Wc.seq
      obtain ⟨za, h96, h⟩ := Z0 h
      refine Wc.r2 [{}, {}, { r := some (.v (aI za) []) }] ⟨[tS 0 u2, tI 1 u0, tP 4 4, tV 6 (.int .u8 (bt u2 u0)), tP 7 7, tI 8 (wr.i64 (u0 + 1)), tI 9 za], [bC 4 GSign.z, bC 7 [aI 6, .str (eX u2 u0), aI 0, aI u0, .bool false]], []⟩ (.cons (Zqv h96) .nil) ?_
      apply Wc.seq
      refine Wc.r0 ⟨[tS 0 u2, tI 1 u0, tP 4 4, tV 6 (.int .u8 (bt u2 u0)), tP 7 7, tI 8 (wr.i64 (u0 + 1)), tI 9 za, tB 39 (decide ((wr.i64 (za - u0)) ≤ 20))], [bC 4 GSign.z, bC 7 [aI 6, .str (eX u2 u0), aI 0, aI u0, .bool false]], []⟩ ?_
      rcases oif h with ⟨h97, h⟩ | ⟨h97, h⟩
      · refine Wc.cT h97 ?_
        apply Wc.seq
        refine Wc.r0 ⟨[tS 0 u2, tI 1 u0, tP 4 4, tV 6 (.int .u8 (bt u2 u0)), tP 7 7, tI 9 za], [bC 4 GSign.z, bC 7 [aI 1, .str (eX u2 u0), aI 0, aI u0, .bool false]], []⟩ ?_
        apply Wc.seq
        apply Wc.seq
        obtain ⟨udt, h98, h⟩ := Z0 h
        refine Wc.r2 [{}, { r := some (.v (.bool udt) []) }] ⟨[tS 0 u2, tI 1 u0, tP 4 4, tP 7 7, tI 9 za, tB 42 udt], [bC 4 GSign.z, bC 7 [aI 1, .str (eX u2 u0), aI 0, aI u0, .bool false]], []⟩ (.cons (Zaa h98) .nil) ?_
        rcases oif h with ⟨h99, h⟩ | ⟨h99, h⟩
        · refine Wc.cT h99 ?_
          refine Wc.r0 ⟨[tS 0 u2, tI 1 u0, tP 4 4, tP 7 7, tI 9 za], [bC 4 GSign.z, bC 7 [aI 2, .str (eX u2 u0), aI 0, aI u0, .bool false]], []⟩ ?_
          apply Wc.seq
          obtain ⟨h100, h⟩ := Zg h
          refine Wc.r2 [] ⟨[tP 4 4, tP 7 7, tI 9 za], [bC 4 GSign.z, bC 7 [aI 2, .str (u2.extract (u0 : Int).toNat (za : Int).toNat), aI 0, aI u0, .bool false]], []⟩ (.cons h100 .nil) ?_
          refine Wc.r0 ⟨[tP 4 4, tP 7 7, tI 8 za], [bC 4 GSign.z, bC 7 [aI 2, .str (u2.extract (u0 : Int).toNat (za : Int).toNat), aI 0, aI u0, .bool false]], []⟩ ?_
          apply Wc.seq
          refine Wc.r0 ⟨[tP 4 4, tI 5 za], [bC 4 [aI 2, .str (u2.extract (u0 : Int).toNat (za : Int).toNat), aI 0, aI u0, .bool false]], []⟩ ?_
          cases h; exact Wc.ret dn
        · refine Wc.cF h99 ?_
          refine Wc.fx [] ⟨[tS 0 u2, tI 1 u0, tP 4 4, tP 7 7, tI 9 za], [bC 4 GSign.z, bC 7 [aI 1, .str (eX u2 u0), aI 0, aI u0, .bool false]], []⟩ ?_
          refine Wc.skip ?_
          apply Wc.seq
          obtain ⟨h101, h⟩ := Zg h
          refine Wc.r2 [] ⟨[tP 4 4, tP 7 7, tI 9 za], [bC 4 GSign.z, bC 7 [aI 1, .str (u2.extract (u0 : Int).toNat (za : Int).toNat), aI 0, aI u0, .bool false]], []⟩ (.cons h101 .nil) ?_
          refine Wc.r0 ⟨[tP 4 4, tP 7 7, tI 8 za], [bC 4 GSign.z, bC 7 [aI 1, .str (u2.extract (u0 : Int).toNat (za : Int).toNat), aI 0, aI u0, .bool false]], []⟩ ?_
          apply Wc.seq
          refine Wc.r0 ⟨[tP 4 4, tI 5 za], [bC 4 [aI 1, .str (u2.extract (u0 : Int).toNat (za : Int).toNat), aI 0, aI u0, .bool false]], []⟩ ?_
          cases h; exact Wc.ret dn
      · refine Wc.cF h97 ?_
        refine Wc.fx [] ⟨[tP 4 4, tP 7 7, tI 8 (wr.i64 (u0 + 1))], [bC 4 GSign.z, bC 7 [aI 6, .str (eX u2 u0), aI 0, aI u0, .bool false]], []⟩ ?_
        refine Wc.skip ?_
        apply Wc.seq
        refine Wc.r0 ⟨[tP 4 4, tI 5 (wr.i64 (u0 + 1))], [bC 4 [aI 6, .str (eX u2 u0), aI 0, aI u0, .bool false]], []⟩ ?_
        cases h; exact Wc.ret dn
    · refine Wc.cF h95 ?_
      apply Wc.seq
      obtain ⟨udu, h102, h⟩ := Z0 h
      refine Wc.r2 [{}, { r := some (.v (.bool udu) []) }] ⟨[tS 0 u2, tI 1 u0, tP 4 4, tV 6 (.int .u8 (bt u2 u0)), tP 7 7, tI 8 (wr.i64 (u0 + 1)), tB 50 udu], [bC 4 GSign.z, bC 7 [aI 6, .str (eX u2 u0), aI 0, aI u0, .bool false]], []⟩ (.cons (Z8y h102) .nil) ?_
      rcases oif h with ⟨h103, h⟩ | ⟨h103, h⟩
      · refine Wc.cT h103 ?_
        apply Wc.seq
        refine Wc.r0 ⟨[tS 0 u2, tI 1 u0, tP 4 4, tP 7 7, tI 8 (wr.i64 (u0 + 1)), tI 10 u0], [bC 4 GSign.z, bC 7 [aI 6, .str (eX u2 u0), aI 0, aI u0, .bool false]], []⟩ ?_
        apply Wc.seq
        refine Wc.r0 ⟨[tS 0 u2, tI 1 u0, tP 4 4, tP 7 7, tI 8 (wr.i64 (u0 + 1)), tI 10 u0, tI 11 0], [bC 4 GSign.z, bC 7 [aI 6, .str (eX u2 u0), aI 0, aI u0, .bool false]], []⟩ ?_
        obtain ⟨out2, h104, h⟩ := Z0 h
        refine Wc.seqJ (fun st => ∃ (u7b : Int) (u60 : Int), out2 = .done (u7b, u60) ∧ st = ⟨[tI 1 u0, tP 4 4, tP 7 7, tI 8 (wr.i64 (u0 + 1)), tI 10 u7b, tI 11 u60], [bC 4 GSign.z, bC 7 [aI 6, .str (eX u2 u0), aI 0, aI u0, .bool false]], []⟩) ?_ ?_
        · refine Wc.block ?_
          refine Wc.loop (fun m st => ∃ (u06 : Int) (u1v : Int), st = ⟨[tS 0 u2, tI 1 u0, tP 4 4, tP 7 7, tI 8 (wr.i64 (u0 + 1)), tI 10 u06, tI 11 u1v], [bC 4 GSign.z, bC 7 [aI 6, .str (eX u2 u0), aI 0, aI u0, .bool false]], []⟩ ∧ Z6i k u2 m u06 u1v = some out2) ?_ k ⟨_, _, rfl, h104⟩
          rintro m st ⟨u06, u1v, rfl, h104⟩
          cases m with
          | zero => exact (Z1r h104).elim
          | succ m =>
            apply Wc.seq
            apply Wc.seq
            rcases oif h104 with ⟨h105, h104⟩ | ⟨h105, h104⟩
            · obtain ⟨h106, h104⟩ := Zg h104
              obtain ⟨udp, h107, h104⟩ := Z0 h104
              rcases oif h104 with ⟨h108, h104⟩ | ⟨h108, h104⟩
              · refine Wc.r2 [{}, {}, {}, {}, rT, {}, {}, {}, { r := some (.v (.bool udp) []) }, {}, rT] ⟨[tS 0 u2, tI 1 u0, tP 4 4, tP 7 7, tI 8 (wr.i64 (u0 + 1)), tI 10 u06, tI 11 u1v, tB 67 (decide (u1v ≤ 999999999))], [bC 4 GSign.z, bC 7 [aI 6, .str (eX u2 u0), aI 0, aI u0, .bool false]], []⟩ (cb h105 (.cons h106 (.cons (Z8y h107) (cb h108 .nil)))) ?_
                rcases oif h104 with ⟨h109, h104⟩ | ⟨h109, h104⟩
                · refine Wc.cT h109 ?_
                  refine Wc.fx [] ⟨[tS 0 u2, tI 1 u0, tP 4 4, tP 7 7, tI 8 (wr.i64 (u0 + 1)), tI 10 u06, tI 11 u1v], [bC 4 GSign.z, bC 7 [aI 6, .str (eX u2 u0), aI 0, aI u0, .bool false]], []⟩ ?_
                  refine Wc.skip ?_
                  refine Wc.block ?_
                  apply Wc.seq
                  obtain ⟨h110, h104⟩ := Zg h104
                  refine Wc.r2 [] ⟨[tS 0 u2, tI 1 u0, tP 4 4, tP 7 7, tI 8 (wr.i64 (u0 + 1)), tI 10 u06, tI 11 (wr.i64 ((wr.i64 ((wr.i64 (10 * u1v)) + (wr.i64 (bt u2 u06)))) - 48))], [bC 4 GSign.z, bC 7 [aI 6, .str (eX u2 u0), aI 0, aI u0, .bool false]], []⟩ (.cons h110 .nil) ?_
                  refine Wc.r0 ⟨[tS 0 u2, tI 1 u0, tP 4 4, tP 7 7, tI 8 (wr.i64 (u0 + 1)), tI 10 (wr.i64 (u06 + 1)), tI 11 (wr.i64 ((wr.i64 ((wr.i64 (10 * u1v)) + (wr.i64 (bt u2 u06)))) - 48))], [bC 4 GSign.z, bC 7 [aI 6, .str (eX u2 u0), aI 0, aI u0, .bool false]], []⟩ ?_
                  exact ⟨_, Nat.lt_succ_self _, _, _, rfl, h104⟩
                · refine Wc.cF h109 ?_
                  refine Wc.fx [] ⟨[tI 1 u0, tP 4 4, tP 7 7, tI 8 (wr.i64 (u0 + 1)), tI 10 u06, tI 11 u1v], [bC 4 GSign.z, bC 7 [aI 6, .str (eX u2 u0), aI 0, aI u0, .bool false]], []⟩ ?_
                  refine Wc.exit ?_
                  cases h104
                  exact ⟨_, _, rfl, rfl⟩
              · refine Wc.r2 [{}, {}, {}, {}, rT, {}, {}, {}, { r := some (.v (.bool udp) []) }, {}, rF] ⟨[tS 0 u2, tI 1 u0, tP 4 4, tP 7 7, tI 8 (wr.i64 (u0 + 1)), tI 10 u06, tI 11 u1v, tB 67 false], [bC 4 GSign.z, bC 7 [aI 6, .str (eX u2 u0), aI 0, aI u0, .bool false]], []⟩ (cb h105 (.cons h106 (.cons (Z8y h107) (cb h108 .nil)))) ?_
                refine Wc.cF rfl ?_
                refine Wc.fx [] ⟨[tI 1 u0, tP 4 4, tP 7 7, tI 8 (wr.i64 (u0 + 1)), tI 10 u06, tI 11 u1v], [bC 4 GSign.z, bC 7 [aI 6, .str (eX u2 u0), aI 0, aI u0, .bool false]], []⟩ ?_
                refine Wc.exit ?_
                cases h104
                exact ⟨_, _, rfl, rfl⟩
            · refine Wc.r2 [{}, {}, {}, {}, rF] ⟨[tS 0 u2, tI 1 u0, tP 4 4, tP 7 7, tI 8 (wr.i64 (u0 + 1)), tI 10 u06, tI 11 u1v, tB 67 false], [bC 4 GSign.z, bC 7 [aI 6, .str (eX u2 u0), aI 0, aI u0, .bool false]], []⟩ (cb h105 .nil) ?_
              refine Wc.cF rfl ?_
              refine Wc.fx [] ⟨[tI 1 u0, tP 4 4, tP 7 7, tI 8 (wr.i64 (u0 + 1)), tI 10 u06, tI 11 u1v], [bC 4 GSign.z, bC 7 [aI 6, .str (eX u2 u0), aI 0, aI u0, .bool false]], []⟩ ?_
              refine Wc.exit ?_
              cases h104
              exact ⟨_, _, rfl, rfl⟩
        · rintro st ⟨u7b, u60, rfl, rfl⟩
          apply Wc.seq
          refine Wc.r0 ⟨[tI 1 u0, tP 4 4, tP 7 7, tI 8 (wr.i64 (u0 + 1)), tI 10 u7b, tI 11 u60, tB 79 (decide (u60 ≤ 999999999))], [bC 4 GSign.z, bC 7 [aI 6, .str (eX u2 u0), aI 0, aI u0, .bool false]], []⟩ ?_
          rcases oif h with ⟨h111, h⟩ | ⟨h111, h⟩
          · refine Wc.cT h111 ?_
            apply Wc.seq
            refine Wc.r0 ⟨[tP 4 4, tI 5 u7b], [bC 4 [aI 3, .str (bs []), aI u60, aI u0, .bool false]], []⟩ ?_
            cases h; exact Wc.ret dn
          · refine Wc.cF h111 ?_
            refine Wc.fx [] ⟨[tP 4 4, tP 7 7, tI 8 (wr.i64 (u0 + 1))], [bC 4 GSign.z, bC 7 [aI 6, .str (eX u2 u0), aI 0, aI u0, .bool false]], []⟩ ?_
            refine Wc.skip ?_
            apply Wc.seq
            refine Wc.r0 ⟨[tP 4 4, tI 5 (wr.i64 (u0 + 1))], [bC 4 [aI 6, .str (eX u2 u0), aI 0, aI u0, .bool false]], []⟩ ?_
            cases h; exact Wc.ret dn
      · refine Wc.cF h103 ?_
        apply Wc.seq
        refine Wc.r0 ⟨[tS 0 u2, tI 1 u0, tP 4 4, tV 6 (.int .u8 (bt u2 u0)), tP 7 7, tI 8 (wr.i64 (u0 + 1)), tB 84 ((bt u2 u0) == 39)], [bC 4 GSign.z, bC 7 [aI 6, .str (eX u2 u0), aI 0, aI u0, .bool false]], []⟩ ?_
        rcases oif h with ⟨h112, h⟩ | ⟨h112, h⟩
        · refine Wc.cT h112 ?_
          apply Wc.seq
          obtain ⟨u2u, h113, h⟩ := Z0 h
          refine Wc.r2 [{}, {}, { r := some (.v (aI u2u) []) }] ⟨[tS 0 u2, tI 1 u0, tP 4 4, tP 7 7, tI 8 (wr.i64 (u0 + 1)), tI 12 u2u], [bC 4 GSign.z, bC 7 [aI 6, .str (eX u2 u0), aI 0, aI u0, .bool false]], []⟩ (.cons (Zky h113) .nil) ?_
          apply Wc.seq
          refine Wc.r0 ⟨[tS 0 u2, tI 1 u0, tP 4 4, tP 7 7, tI 8 (wr.i64 (u0 + 1)), tI 12 u2u, tB 91 (decide (u2u > 0))], [bC 4 GSign.z, bC 7 [aI 6, .str (eX u2 u0), aI 0, aI u0, .bool false]], []⟩ ?_
          rcases oif h with ⟨h114, h⟩ | ⟨h114, h⟩
          · refine Wc.cT h114 ?_
            apply Wc.seq
            obtain ⟨h115, h⟩ := Zg h
            refine Wc.r2 [] ⟨[tP 4 4, tP 7 7, tI 12 u2u], [bC 4 GSign.z, bC 7 [aI 1, .str (u2.extract ((wr.i64 (u0 + 1)) : Int).toNat ((wr.i64 (u2u - 1)) : Int).toNat), aI 0, aI u0, .bool false]], []⟩ (.cons h115 .nil) ?_
            refine Wc.r0 ⟨[tP 4 4, tP 7 7, tI 8 u2u], [bC 4 GSign.z, bC 7 [aI 1, .str (u2.extract ((wr.i64 (u0 + 1)) : Int).toNat ((wr.i64 (u2u - 1)) : Int).toNat), aI 0, aI u0, .bool false]], []⟩ ?_
            apply Wc.seq
            refine Wc.r0 ⟨[tP 4 4, tI 5 u2u], [bC 4 [aI 1, .str (u2.extract ((wr.i64 (u0 + 1)) : Int).toNat ((wr.i64 (u2u - 1)) : Int).toNat), aI 0, aI u0, .bool false]], []⟩ ?_
            cases h; exact Wc.ret dn
          · refine Wc.cF h114 ?_
            refine Wc.fx [] ⟨[tP 4 4, tP 7 7, tI 8 (wr.i64 (u0 + 1))], [bC 4 GSign.z, bC 7 [aI 6, .str (eX u2 u0), aI 0, aI u0, .bool false]], []⟩ ?_
            refine Wc.skip ?_
            apply Wc.seq
            refine Wc.r0 ⟨[tP 4 4, tI 5 (wr.i64 (u0 + 1))], [bC 4 [aI 6, .str (eX u2 u0), aI 0, aI u0, .bool false]], []⟩ ?_
            cases h; exact Wc.ret dn
        · refine Wc.cF h112 ?_
          refine Wc.seqJ (fun st => ∃ (uab : Bool), st = ⟨[tS 0 u2, tI 1 u0, tP 4 4, tV 6 (.int .u8 (bt u2 u0)), tP 7 7, tI 8 (wr.i64 (u0 + 1)), tB 101 uab], [bC 4 GSign.z, bC 7 [aI 6, .str (eX u2 u0), aI 0, aI u0, .bool false]], []⟩ ∧ Z44 k u2 u0 uab = some r) ?_ ?_
          · rcases oif h with ⟨h134, h⟩ | ⟨h134, h⟩
            · refine Wc.r2 [{}, {}, rT] ⟨[tS 0 u2, tI 1 u0, tP 4 4, tV 6 (.int .u8 (bt u2 u0)), tP 7 7, tI 8 (wr.i64 (u0 + 1)), tB 101 true], [bC 4 GSign.z, bC 7 [aI 6, .str (eX u2 u0), aI 0, aI u0, .bool false]], []⟩ (cb h134 .nil) ?_
              exact ⟨_, rfl, h⟩
            · refine Wc.r2 [{}, {}, rF] ⟨[tS 0 u2, tI 1 u0, tP 4 4, tV 6 (.int .u8 (bt u2 u0)), tP 7 7, tI 8 (wr.i64 (u0 + 1)), tB 101 ((bt u2 u0) == 59)], [bC 4 GSign.z, bC 7 [aI 6, .str (eX u2 u0), aI 0, aI u0, .bool false]], []⟩ (cb h134 .nil) ?_
              exact ⟨_, rfl, h⟩
          · rintro st ⟨uab, rfl, h⟩
            rcases oif h with ⟨h116, h⟩ | ⟨h116, h⟩
            · refine Wc.cT h116 ?_
              refine Wc.r0 ⟨[tP 4 4, tP 7 7, tI 8 (wr.i64 (u0 + 1))], [bC 4 GSign.z, bC 7 [aI 1, .str (eX u2 u0), aI 0, aI u0, .bool false]], []⟩ ?_
              apply Wc.seq
              refine Wc.r0 ⟨[tP 4 4, tI 5 (wr.i64 (u0 + 1))], [bC 4 [aI 1, .str (eX u2 u0), aI 0, aI u0, .bool false]], []⟩ ?_
              cases h; exact Wc.ret dn
            · refine Wc.cF h116 ?_
              refine Wc.seqJ (fun st => ∃ (uaa : Bool), st = ⟨[tS 0 u2, tI 1 u0, tP 4 4, tV 6 (.int .u8 (bt u2 u0)), tP 7 7, tI 8 (wr.i64 (u0 + 1)), tB 109 uaa], [bC 4 GSign.z, bC 7 [aI 6, .str (eX u2 u0), aI 0, aI u0, .bool false]], []⟩ ∧ Z2o k u2 u0 uaa = some r) ?_ ?_
              · rcases oif h with ⟨h129, h⟩ | ⟨h129, h⟩
                · refine Wc.r2 [{}, {}, rT] ⟨[tS 0 u2, tI 1 u0, tP 4 4, tV 6 (.int .u8 (bt u2 u0)), tP 7 7, tI 8 (wr.i64 (u0 + 1)), tB 109 true], [bC 4 GSign.z, bC 7 [aI 6, .str (eX u2 u0), aI 0, aI u0, .bool false]], []⟩ (cb h129 .nil) ?_
                  exact ⟨_, rfl, h⟩
                · rcases oif h with ⟨h130, h⟩ | ⟨h130, h⟩
                  · refine Wc.r2 [{}, {}, rF, {}, {}, {}, rT] ⟨[tS 0 u2, tI 1 u0, tP 4 4, tV 6 (.int .u8 (bt u2 u0)), tP 7 7, tI 8 (wr.i64 (u0 + 1)), tB 109 true], [bC 4 GSign.z, bC 7 [aI 6, .str (eX u2 u0), aI 0, aI u0, .bool false]], []⟩ (cb h129 (cb h130 .nil)) ?_
                    exact ⟨_, rfl, h⟩
                  · rcases oif h with ⟨h131, h⟩ | ⟨h131, h⟩
                    · refine Wc.r2 [{}, {}, rF, {}, {}, {}, rF, {}, {}, {}, rT] ⟨[tS 0 u2, tI 1 u0, tP 4 4, tV 6 (.int .u8 (bt u2 u0)), tP 7 7, tI 8 (wr.i64 (u0 + 1)), tB 109 true], [bC 4 GSign.z, bC 7 [aI 6, .str (eX u2 u0), aI 0, aI u0, .bool false]], []⟩ (cb h129 (cb h130 (cb h131 .nil))) ?_
                      exact ⟨_, rfl, h⟩
                    · rcases oif h with ⟨h132, h⟩ | ⟨h132, h⟩
                      · refine Wc.r2 [{}, {}, rF, {}, {}, {}, rF, {}, {}, {}, rF, {}, {}, {}, rT] ⟨[tS 0 u2, tI 1 u0, tP 4 4, tV 6 (.int .u8 (bt u2 u0)), tP 7 7, tI 8 (wr.i64 (u0 + 1)), tB 109 true], [bC 4 GSign.z, bC 7 [aI 6, .str (eX u2 u0), aI 0, aI u0, .bool false]], []⟩ (cb h129 (cb h130 (cb h131 (cb h132 .nil)))) ?_
                        exact ⟨_, rfl, h⟩
                      · rcases oif h with ⟨h133, h⟩ | ⟨h133, h⟩
                        · refine Wc.r2 [{}, {}, rF, {}, {}, {}, rF, {}, {}, {}, rF, {}, {}, {}, rF, {}, {}, {}, rT] ⟨[tS 0 u2, tI 1 u0, tP 4 4, tV 6 (.int .u8 (bt u2 u0)), tP 7 7, tI 8 (wr.i64 (u0 + 1)), tB 109 true], [bC 4 GSign.z, bC 7 [aI 6, .str (eX u2 u0), aI 0, aI u0, .bool false]], []⟩ (cb h129 (cb h130 (cb h131 (cb h132 (cb h133 .nil))))) ?_
                          exact ⟨_, rfl, h⟩
                        · refine Wc.r2 [{}, {}, rF, {}, {}, {}, rF, {}, {}, {}, rF, {}, {}, {}, rF, {}, {}, {}, rF] ⟨[tS 0 u2, tI 1 u0, tP 4 4, tV 6 (.int .u8 (bt u2 u0)), tP 7 7, tI 8 (wr.i64 (u0 + 1)), tB 109 ((bt u2 u0) == 124)], [bC 4 GSign.z, bC 7 [aI 6, .str (eX u2 u0), aI 0, aI u0, .bool false]], []⟩ (cb h129 (cb h130 (cb h131 (cb h132 (cb h133 .nil))))) ?_
                          exact ⟨_, rfl, h⟩
              · rintro st ⟨uaa, rfl, h⟩
                rcases oif h with ⟨h117, h⟩ | ⟨h117, h⟩
                · refine Wc.cT h117 ?_
                  refine Wc.r0 ⟨[tP 4 4, tP 7 7, tI 8 (wr.i64 (u0 + 1))], [bC 4 GSign.z, bC 7 [aI 4, .str (eX u2 u0), aI 0, aI u0, .bool false]], []⟩ ?_
                  apply Wc.seq
                  refine Wc.r0 ⟨[tP 4 4, tI 5 (wr.i64 (u0 + 1))], [bC 4 [aI 4, .str (eX u2 u0), aI 0, aI u0, .bool false]], []⟩ ?_
                  cases h; exact Wc.ret dn
                · refine Wc.cF h117 ?_
                  apply Wc.seq
                  obtain ⟨udr, h118, h⟩ := Z0 h
                  refine Wc.r2 [{}, {}, { r := some (.v (.bool udr) []) }] ⟨[tS 0 u2, tI 1 u0, tP 4 4, tV 6 (.int .u8 (bt u2 u0)), tP 7 7, tI 8 (wr.i64 (u0 + 1)), tB 133 udr], [bC 4 GSign.z, bC 7 [aI 6, .str (eX u2 u0), aI 0, aI u0, .bool false]], []⟩ (.cons (Zqw h118) .nil) ?_
                  rcases oif h with ⟨h119, h⟩ | ⟨h119, h⟩
                  · refine Wc.cT h119 ?_
                    refine Wc.r0 ⟨[tP 4 4, tP 7 7, tI 8 (wr.i64 (u0 + 1))], [bC 4 GSign.z, bC 7 [aI 5, .str (eX u2 u0), aI 0, aI u0, .bool false]], []⟩ ?_
                    apply Wc.seq
                    refine Wc.r0 ⟨[tP 4 4, tI 5 (wr.i64 (u0 + 1))], [bC 4 [aI 5, .str (eX u2 u0), aI 0, aI u0, .bool false]], []⟩ ?_
                    cases h; exact Wc.ret dn
                  · refine Wc.cF h119 ?_
                    apply Wc.seq
                    obtain ⟨uds, h120, h⟩ := Z0 h
                    refine Wc.r2 [{}, { r := some (.v (.bool uds) []) }] ⟨[tS 0 u2, tI 1 u0, tP 4 4, tP 7 7, tI 8 (wr.i64 (u0 + 1)), tB 138 uds], [bC 4 GSign.z, bC 7 [aI 6, .str (eX u2 u0), aI 0, aI u0, .bool false]], []⟩ (.cons (Z5m h120) .nil) ?_
                    rcases oif h with ⟨h121, h⟩ | ⟨h121, h⟩
                    · refine Wc.cT h121 ?_
                      apply Wc.seq
                      refine Wc.r0 ⟨[tS 0 u2, tI 1 u0, tP 4 4, tP 7 7, tI 8 (wr.i64 (u0 + 1)), tI 13 u0], [bC 4 GSign.z, bC 7 [aI 6, .str (eX u2 u0), aI 0, aI u0, .bool false]], []⟩ ?_
                      obtain ⟨out5, h122, h⟩ := Z0 h
                      refine Wc.seqJ (fun st => ∃ (u1z : Int), out5 = .done u1z ∧ st = ⟨[tS 0 u2, tI 1 u0, tP 4 4, tP 7 7, tI 8 (wr.i64 (u0 + 1)), tI 13 u1z], [bC 4 GSign.z, bC 7 [aI 6, .str (eX u2 u0), aI 0, aI u0, .bool false]], []⟩) ?_ ?_
                      · refine Wc.block ?_
                        refine Wc.loop (fun m st => ∃ (u2c : Int), st = ⟨[tS 0 u2, tI 1 u0, tP 4 4, tP 7 7, tI 8 (wr.i64 (u0 + 1)), tI 13 u2c], [bC 4 GSign.z, bC 7 [aI 6, .str (eX u2 u0), aI 0, aI u0, .bool false]], []⟩ ∧ Z6h k u2 m u2c = some out5) ?_ k ⟨_, rfl, h122⟩
                        rintro m st ⟨u2c, rfl, h122⟩
                        cases m with
                        | zero => exact (Z1r h122).elim
                        | succ m =>
                          apply Wc.seq
                          apply Wc.seq
                          rcases oif h122 with ⟨h123, h122⟩ | ⟨h123, h122⟩
                          · obtain ⟨h124, h122⟩ := Zg h122
                            obtain ⟨udq, h125, h122⟩ := Z0 h122
                            refine Wc.r2 [{}, {}, {}, {}, rT, {}, {}, {}, { r := some (.v (.bool udq) []) }] ⟨[tS 0 u2, tI 1 u0, tP 4 4, tP 7 7, tI 8 (wr.i64 (u0 + 1)), tI 13 u2c, tB 151 udq], [bC 4 GSign.z, bC 7 [aI 6, .str (eX u2 u0), aI 0, aI u0, .bool false]], []⟩ (cb h123 (.cons h124 (.cons (Z5m h125) .nil))) ?_
                            rcases oif h122 with ⟨h126, h122⟩ | ⟨h126, h122⟩
                            · refine Wc.cT h126 ?_
                              refine Wc.fx [] ⟨[tS 0 u2, tI 1 u0, tP 4 4, tP 7 7, tI 8 (wr.i64 (u0 + 1)), tI 13 u2c], [bC 4 GSign.z, bC 7 [aI 6, .str (eX u2 u0), aI 0, aI u0, .bool false]], []⟩ ?_
                              refine Wc.skip ?_
                              refine Wc.block ?_
                              refine Wc.r0 ⟨[tS 0 u2, tI 1 u0, tP 4 4, tP 7 7, tI 8 (wr.i64 (u0 + 1)), tI 13 (wr.i64 (u2c + 1))], [bC 4 GSign.z, bC 7 [aI 6, .str (eX u2 u0), aI 0, aI u0, .bool false]], []⟩ ?_
                              exact ⟨_, Nat.lt_succ_self _, _, rfl, h122⟩
                            · refine Wc.cF h126 ?_
                              refine Wc.fx [] ⟨[tS 0 u2, tI 1 u0, tP 4 4, tP 7 7, tI 8 (wr.i64 (u0 + 1)), tI 13 u2c], [bC 4 GSign.z, bC 7 [aI 6, .str (eX u2 u0), aI 0, aI u0, .bool false]], []⟩ ?_
                              refine Wc.exit ?_
                              cases h122
                              exact ⟨_, rfl, rfl⟩
                          · refine Wc.r2 [{}, {}, {}, {}, rF] ⟨[tS 0 u2, tI 1 u0, tP 4 4, tP 7 7, tI 8 (wr.i64 (u0 + 1)), tI 13 u2c, tB 151 false], [bC 4 GSign.z, bC 7 [aI 6, .str (eX u2 u0), aI 0, aI u0, .bool false]], []⟩ (cb h123 .nil) ?_
                            refine Wc.cF rfl ?_
                            refine Wc.fx [] ⟨[tS 0 u2, tI 1 u0, tP 4 4, tP 7 7, tI 8 (wr.i64 (u0 + 1)), tI 13 u2c], [bC 4 GSign.z, bC 7 [aI 6, .str (eX u2 u0), aI 0, aI u0, .bool false]], []⟩ ?_
                            refine Wc.exit ?_
                            cases h122
                            exact ⟨_, rfl, rfl⟩
                      · rintro st ⟨u1z, rfl, rfl⟩
                        apply Wc.seq
                        refine Wc.r0 ⟨[tS 0 u2, tI 1 u0, tP 4 4, tP 7 7, tI 8 (wr.i64 (u0 + 1)), tI 13 u1z, tB 157 (decide ((wr.i64 (u1z - u0)) ≤ 20))], [bC 4 GSign.z, bC 7 [aI 6, .str (eX u2 u0), aI 0, aI u0, .bool false]], []⟩ ?_
                        rcases oif h with ⟨h127, h⟩ | ⟨h127, h⟩
                        · refine Wc.cT h127 ?_
                          apply Wc.seq
                          refine Wc.r0 ⟨[tS 0 u2, tI 1 u0, tP 4 4, tP 7 7, tI 13 u1z], [bC 4 GSign.z, bC 7 [aI 1, .str (eX u2 u0), aI 0, aI u0, .bool false]], []⟩ ?_
                          apply Wc.seq
                          obtain ⟨h128, h⟩ := Zg h
                          refine Wc.r2 [] ⟨[tP 4 4, tP 7 7, tI 13 u1z], [bC 4 GSign.z, bC 7 [aI 1, .str (u2.extract (u0 : Int).toNat (u1z : Int).toNat), aI 0, aI u0, .bool false]], []⟩ (.cons h128 .nil) ?_
                          refine Wc.r0 ⟨[tP 4 4, tP 7 7, tI 8 u1z], [bC 4 GSign.z, bC 7 [aI 1, .str (u2.extract (u0 : Int).toNat (u1z : Int).toNat), aI 0, aI u0, .bool false]], []⟩ ?_
                          apply Wc.seq
                          refine Wc.r0 ⟨[tP 4 4, tI 5 u1z], [bC 4 [aI 1, .str (u2.extract (u0 : Int).toNat (u1z : Int).toNat), aI 0, aI u0, .bool false]], []⟩ ?_
                          cases h; exact Wc.ret dn
                        · refine Wc.cF h127 ?_
                          refine Wc.fx [] ⟨[tP 4 4, tP 7 7, tI 8 (wr.i64 (u0 + 1))], [bC 4 GSign.z, bC 7 [aI 6, .str (eX u2 u0), aI 0, aI u0, .bool false]], []⟩ ?_
                          refine Wc.skip ?_
                          apply Wc.seq
                          refine Wc.r0 ⟨[tP 4 4, tI 5 (wr.i64 (u0 + 1))], [bC 4 [aI 6, .str (eX u2 u0), aI 0, aI u0, .bool false]], []⟩ ?_
                          cases h; exact Wc.ret dn
                    · refine Wc.cF h121 ?_
                      refine Wc.fx [] ⟨[tP 4 4, tP 7 7, tI 8 (wr.i64 (u0 + 1))], [bC 4 GSign.z, bC 7 [aI 6, .str (eX u2 u0), aI 0, aI u0, .bool false]], []⟩ ?_
                      refine Wc.skip ?_
                      apply Wc.seq
                      refine Wc.r0 ⟨[tP 4 4, tI 5 (wr.i64 (u0 + 1))], [bC 4 [aI 6, .str (eX u2 u0), aI 0, aI u0, .bool false]], []⟩ ?_
                      cases h; exact Wc.ret dn

def Z6n (k : Nat) (un : ByteArray) : Nat → Int → Option (Out ((List GSign) × Bool) Int)
  | 0, _ => none
  | m + 1, u20 =>
    if (decide (u20 < (un.size : Int))) = true then
      if 0 ≤ u20 ∧ (u20).toNat < un.size then
        if ((bt un u20) != 10) = true then
          Z6n k un m (wr.i64 (u20 + 1))
        else
          some (.done u20)
      else none
    else
      some (.done u20)
def Z2e (k : Nat) (un : ByteArray) : Nat → (List GSign) → Int → Option (Out ((List GSign) × Bool) (List GSign))
  | 0, _, _ => none
  | m + 1, ve, u0m =>
    if (decide (u0m < (un.size : Int))) = true then
      if 0 ≤ u0m ∧ (u0m).toNat < un.size then
        (Z2p k (bt un u0m)).bind fun udx =>
        if udx = true then
          Z2e k un m ve (wr.i64 (u0m + 1))
        else
          if 0 ≤ u0m ∧ (u0m).toNat < un.size then
            if ((bt un u0m) == 37) = true then
              (Z6n k un k u0m).bind fun out2 => match out2 with
              | .ret r => some (.ret r)
              | .done uad =>
                Z2e k un m ve uad
            else
              (Z83 k un u0m).bind fun u7 =>
              if (decide (u7.2 < (un.size : Int))) = true then
                if 0 ≤ u7.2 ∧ (u7.2).toNat < un.size then
                  if ve.length + [GSign.mk u7.1.gKind u7.1.gText u7.1.gNum u7.1.gAt ((bt un u7.2) == 40)].length ≤ 1073741824 then
                    Z2e k un m (ve ++ [GSign.mk u7.1.gKind u7.1.gText u7.1.gNum u7.1.gAt ((bt un u7.2) == 40)]) u7.2
                  else none
                else none
              else
                if ve.length + [GSign.mk u7.1.gKind u7.1.gText u7.1.gNum u7.1.gAt false].length ≤ 1073741824 then
                  Z2e k un m (ve ++ [GSign.mk u7.1.gKind u7.1.gText u7.1.gNum u7.1.gAt false]) u7.2
                else none
          else none
      else none
    else
      some (.done ve)
def Z71 (k : Nat) (un : ByteArray) : Option ((List GSign) × Bool) :=
  if (decide ((un.size : Int) > 3000)) = true then
    some ([], false)
  else
    (Z2e k un k [] 0).bind fun out1 => match out1 with
    | .ret r => some r
    | .done u89 =>
      some (u89, true)
set_option maxHeartbeats 4000000 in
theorem Zhu {k : Nat} {un : ByteArray} {r : (List GSign) × Bool} (h : Z71 k un = some r) : FnO Tryz.prog 22 [.v (.str un) []] (.v (.tup [.sl (List.map GSign.c r.1), .bool r.2]) [(0, .app 55)]) [] := by
  refine FnO.o2 Tryz.func22 (rfl : Tryz.f22.body = some _) ?_
  intro w0 X0 Fin pv0 pb gt
  unfold Z71 at h
  apply Wc.seq
  refine Wc.r0 ⟨[tS 0 un], [], []⟩ ?_
  apply Wc.seq
  refine Wc.r2 [{ c := some (List.map GSign.c []) }, { tk := [8] }] ⟨[tS 0 un, (4, (.v (.sl (List.map GSign.c [])), [(0, .app 55)]))], [], []⟩ (.cons (Z4g GSign.c) .nil) ?_
  apply Wc.seq
  apply Wc.seq
  refine Wc.r0 ⟨[tS 0 un, (4, (.v (.sl (List.map GSign.c [])), [(0, .app 55)])), tB 11 (decide ((un.size : Int) > 3000))], [], []⟩ ?_
  rcases oif h with ⟨h155, h⟩ | ⟨h155, h⟩
  · refine Wc.cT h155 ?_
    apply Wc.seq
    refine Wc.r1 [{ tk := [4] }, { tk := [12] }] ⟨[(2, (.v (.sl (List.map GSign.c [])), [(0, .app 55)])), tB 3 false], [], []⟩ ?_
    cases h; exact Wc.ret dn
  · refine Wc.cF h155 ?_
    refine Wc.fx [] ⟨[tS 0 un, (4, (.v (.sl (List.map GSign.c [])), [(0, .app 55)]))], [], []⟩ ?_
    refine Wc.skip ?_
    apply Wc.seq
    refine Wc.r0 ⟨[tS 0 un, (4, (.v (.sl (List.map GSign.c [])), [(0, .app 55)])), tI 5 0], [], []⟩ ?_
    obtain ⟨out1, h156, h⟩ := Z0 h
    refine Wc.seqJ (fun st => ∃ (u89 : List GSign), out1 = .done u89 ∧ st = ⟨[(4, (.v (.sl (List.map GSign.c u89)), [(0, .app 55)]))], [], []⟩) ?_ ?_
    · refine Wc.block ?_
      refine Wc.loop (fun m st => ∃ (ve : List GSign) (u0m : Int), st = ⟨[tS 0 un, (4, (.v (.sl (List.map GSign.c ve)), [(0, .app 55)])), tI 5 u0m], [], []⟩ ∧ Z2e k un m ve u0m = some out1) ?_ k ⟨_, _, rfl, h156⟩
      rintro m st ⟨ve, u0m, rfl, h156⟩
      cases m with
      | zero => exact (Z1r h156).elim
      | succ m =>
        apply Wc.seq
        apply Wc.seq
        refine Wc.r0 ⟨[tS 0 un, (4, (.v (.sl (List.map GSign.c ve)), [(0, .app 55)])), tI 5 u0m, tB 16 (decide (u0m < (un.size : Int)))], [], []⟩ ?_
        rcases oif h156 with ⟨h157, h156⟩ | ⟨h157, h156⟩
        · refine Wc.cT h157 ?_
          refine Wc.fx [] ⟨[tS 0 un, (4, (.v (.sl (List.map GSign.c ve)), [(0, .app 55)])), tI 5 u0m], [], []⟩ ?_
          refine Wc.skip ?_
          refine Wc.block ?_
          apply Wc.seq
          apply Wc.seq
          obtain ⟨h158, h156⟩ := Zg h156
          obtain ⟨udx, h159, h156⟩ := Z0 h156
          refine Wc.r2 [{}, {}, {}, { r := some (.v (.bool udx) []) }] ⟨[tS 0 un, (4, (.v (.sl (List.map GSign.c ve)), [(0, .app 55)])), tI 5 u0m, tB 20 udx], [], []⟩ (.cons h158 (.cons (Z8n h159) .nil)) ?_
          rcases oif h156 with ⟨h160, h156⟩ | ⟨h160, h156⟩
          · refine Wc.cT h160 ?_
            apply Wc.seq
            refine Wc.r0 ⟨[tS 0 un, (4, (.v (.sl (List.map GSign.c ve)), [(0, .app 55)])), tI 5 (wr.i64 (u0m + 1))], [], []⟩ ?_
            refine Wc.exit ?_
            exact ⟨_, Nat.lt_succ_self _, _, _, rfl, h156⟩
          · refine Wc.cF h160 ?_
            refine Wc.fx [] ⟨[tS 0 un, (4, (.v (.sl (List.map GSign.c ve)), [(0, .app 55)])), tI 5 u0m], [], []⟩ ?_
            refine Wc.skip ?_
            apply Wc.seq
            apply Wc.seq
            obtain ⟨h161, h156⟩ := Zg h156
            refine Wc.r2 [] ⟨[tS 0 un, (4, (.v (.sl (List.map GSign.c ve)), [(0, .app 55)])), tI 5 u0m, tB 26 ((bt un u0m) == 37)], [], []⟩ (.cons h161 .nil) ?_
            rcases oif h156 with ⟨h162, h156⟩ | ⟨h162, h156⟩
            · refine Wc.cT h162 ?_
              obtain ⟨out2, h163, h156⟩ := Z0 h156
              refine Wc.seqJ (fun st => ∃ (uad : Int), out2 = .done uad ∧ st = ⟨[tS 0 un, (4, (.v (.sl (List.map GSign.c ve)), [(0, .app 55)])), tI 5 uad], [], []⟩) ?_ ?_
              · refine Wc.block ?_
                refine Wc.fx [] ⟨[tS 0 un, (4, (.v (.sl (List.map GSign.c ve)), [(0, .app 55)])), tI 5 u0m], [], []⟩ ?_
                refine Wc.loop (fun m st => ∃ (u20 : Int), st = ⟨[tS 0 un, (4, (.v (.sl (List.map GSign.c ve)), [(0, .app 55)])), tI 5 u20], [], []⟩ ∧ Z6n k un m u20 = some out2) ?_ k ⟨_, rfl, h163⟩
                rintro m st ⟨u20, rfl, h163⟩
                cases m with
                | zero => exact (Z1r h163).elim
                | succ m =>
                  apply Wc.seq
                  apply Wc.seq
                  rcases oif h163 with ⟨h164, h163⟩ | ⟨h164, h163⟩
                  · obtain ⟨h165, h163⟩ := Zg h163
                    refine Wc.r2 [{}, {}, {}, {}, rT] ⟨[tS 0 un, (4, (.v (.sl (List.map GSign.c ve)), [(0, .app 55)])), tI 5 u20, tB 36 ((bt un u20) != 10)], [], []⟩ (cb h164 (.cons h165 .nil)) ?_
                    rcases oif h163 with ⟨h166, h163⟩ | ⟨h166, h163⟩
                    · refine Wc.cT h166 ?_
                      refine Wc.fx [] ⟨[tS 0 un, (4, (.v (.sl (List.map GSign.c ve)), [(0, .app 55)])), tI 5 u20], [], []⟩ ?_
                      refine Wc.skip ?_
                      refine Wc.block ?_
                      refine Wc.r0 ⟨[tS 0 un, (4, (.v (.sl (List.map GSign.c ve)), [(0, .app 55)])), tI 5 (wr.i64 (u20 + 1))], [], []⟩ ?_
                      exact ⟨_, Nat.lt_succ_self _, _, rfl, h163⟩
                    · refine Wc.cF h166 ?_
                      refine Wc.fx [] ⟨[tS 0 un, (4, (.v (.sl (List.map GSign.c ve)), [(0, .app 55)])), tI 5 u20], [], []⟩ ?_
                      refine Wc.exit ?_
                      cases h163
                      exact ⟨_, rfl, rfl⟩
                  · refine Wc.r2 [{}, {}, {}, {}, rF] ⟨[tS 0 un, (4, (.v (.sl (List.map GSign.c ve)), [(0, .app 55)])), tI 5 u20, tB 36 false], [], []⟩ (cb h164 .nil) ?_
                    refine Wc.cF rfl ?_
                    refine Wc.fx [] ⟨[tS 0 un, (4, (.v (.sl (List.map GSign.c ve)), [(0, .app 55)])), tI 5 u20], [], []⟩ ?_
                    refine Wc.exit ?_
                    cases h163
                    exact ⟨_, rfl, rfl⟩
              · rintro st ⟨uad, rfl, rfl⟩
                refine Wc.exit ?_
                exact ⟨_, Nat.lt_succ_self _, _, _, rfl, h156⟩
            · refine Wc.cF h162 ?_
              refine Wc.fx [] ⟨[tS 0 un, (4, (.v (.sl (List.map GSign.c ve)), [(0, .app 55)])), tI 5 u0m], [], []⟩ ?_
              refine Wc.skip ?_
              apply Wc.seq
              obtain ⟨u7, h167, h156⟩ := Z0 h156
              refine Wc.r2 [{}, {}, { r := some (.v (.tup [.agg (GSign.q u7.1), aI u7.2]) []) }] ⟨[tS 0 un, (4, (.v (.sl (List.map GSign.c ve)), [(0, .app 55)])), tP 6 6, tI 7 u7.2], [bC 6 (GSign.q u7.1)], []⟩ (.cons (Zoj h167) .nil) ?_
              apply Wc.seq
              rcases oif h156 with ⟨h168, h156⟩ | ⟨h168, h156⟩
              · obtain ⟨h169, h156⟩ := Zg h156
                refine Wc.r2 [{}, {}, {}, {}, rT] ⟨[tS 0 un, (4, (.v (.sl (List.map GSign.c ve)), [(0, .app 55)])), tP 6 6, tI 7 u7.2], [bC 6 [aI u7.1.gKind, .str u7.1.gText, aI u7.1.gNum, aI u7.1.gAt, .bool ((bt un u7.2) == 40)]], []⟩ (cb h168 (.cons h169 .nil)) ?_
                apply Wc.seq
                obtain ⟨h170, h156⟩ := Zg h156
                refine Wc.r2 [{ tk := [4] }, {}, { c := some (List.map GSign.c [GSign.mk u7.1.gKind u7.1.gText u7.1.gNum u7.1.gAt ((bt un u7.2) == 40)]) }, { c := some (List.map GSign.c (ve ++ [GSign.mk u7.1.gKind u7.1.gText u7.1.gNum u7.1.gAt ((bt un u7.2) == 40)])), tk := [56] }, { tk := [59] }] ⟨[tS 0 un, (4, (.v (.sl (List.map GSign.c (ve ++ [GSign.mk u7.1.gKind u7.1.gText u7.1.gNum u7.1.gAt ((bt un u7.2) == 40)]))), [(0, .app 55)])), tI 7 u7.2], [], []⟩ (.cons (Z3r (c := GSign.c) (x := GSign.mk u7.1.gKind u7.1.gText u7.1.gNum u7.1.gAt ((bt un u7.2) == 40)) (GSign.c_eq (GSign.mk u7.1.gKind u7.1.gText u7.1.gNum u7.1.gAt ((bt un u7.2) == 40))) (Z4g GSign.c)) (.cons (Z75 GSign.c ve [GSign.mk u7.1.gKind u7.1.gText u7.1.gNum u7.1.gAt ((bt un u7.2) == 40)]) (.cons (Z53 (c := GSign.c) (ys := [GSign.mk u7.1.gKind u7.1.gText u7.1.gNum u7.1.gAt ((bt un u7.2) == 40)]) GSign.c_leaf) (.cons (Z52 (c := GSign.c) (xs := ve) (ys := [GSign.mk u7.1.gKind u7.1.gText u7.1.gNum u7.1.gAt ((bt un u7.2) == 40)]) GSign.c_len h170) .nil)))) ?_
                refine Wc.r0 ⟨[tS 0 un, (4, (.v (.sl (List.map GSign.c (ve ++ [GSign.mk u7.1.gKind u7.1.gText u7.1.gNum u7.1.gAt ((bt un u7.2) == 40)]))), [(0, .app 55)])), tI 5 u7.2], [], []⟩ ?_
                exact ⟨_, Nat.lt_succ_self _, _, _, rfl, h156⟩
              · refine Wc.r2 [{}, {}, {}, {}, rF] ⟨[tS 0 un, (4, (.v (.sl (List.map GSign.c ve)), [(0, .app 55)])), tP 6 6, tI 7 u7.2], [bC 6 [aI u7.1.gKind, .str u7.1.gText, aI u7.1.gNum, aI u7.1.gAt, .bool false]], []⟩ (cb h168 .nil) ?_
                apply Wc.seq
                obtain ⟨h171, h156⟩ := Zg h156
                refine Wc.r2 [{ tk := [4] }, {}, { c := some (List.map GSign.c [GSign.mk u7.1.gKind u7.1.gText u7.1.gNum u7.1.gAt false]) }, { c := some (List.map GSign.c (ve ++ [GSign.mk u7.1.gKind u7.1.gText u7.1.gNum u7.1.gAt false])), tk := [56] }, { tk := [59] }] ⟨[tS 0 un, (4, (.v (.sl (List.map GSign.c (ve ++ [GSign.mk u7.1.gKind u7.1.gText u7.1.gNum u7.1.gAt false]))), [(0, .app 55)])), tI 7 u7.2], [], []⟩ (.cons (Z3r (c := GSign.c) (x := GSign.mk u7.1.gKind u7.1.gText u7.1.gNum u7.1.gAt false) (GSign.c_eq (GSign.mk u7.1.gKind u7.1.gText u7.1.gNum u7.1.gAt false)) (Z4g GSign.c)) (.cons (Z75 GSign.c ve [GSign.mk u7.1.gKind u7.1.gText u7.1.gNum u7.1.gAt false]) (.cons (Z53 (c := GSign.c) (ys := [GSign.mk u7.1.gKind u7.1.gText u7.1.gNum u7.1.gAt false]) GSign.c_leaf) (.cons (Z52 (c := GSign.c) (xs := ve) (ys := [GSign.mk u7.1.gKind u7.1.gText u7.1.gNum u7.1.gAt false]) GSign.c_len h171) .nil)))) ?_
                refine Wc.r0 ⟨[tS 0 un, (4, (.v (.sl (List.map GSign.c (ve ++ [GSign.mk u7.1.gKind u7.1.gText u7.1.gNum u7.1.gAt false]))), [(0, .app 55)])), tI 5 u7.2], [], []⟩ ?_
                exact ⟨_, Nat.lt_succ_self _, _, _, rfl, h156⟩
        · refine Wc.cF h157 ?_
          refine Wc.fx [] ⟨[(4, (.v (.sl (List.map GSign.c ve)), [(0, .app 55)]))], [], []⟩ ?_
          refine Wc.exit ?_
          cases h156
          exact ⟨_, rfl, rfl⟩
    · rintro st ⟨u89, rfl, rfl⟩
      apply Wc.seq
      refine Wc.r1 [{ tk := [4] }, { tk := [61] }] ⟨[(2, (.v (.sl (List.map GSign.c u89)), [(0, .app 55)])), tB 3 true], [], []⟩ ?_
      cases h; exact Wc.ret dn

def Z5b (k : Nat) (vy : List GSign) : Nat → Int → Option (Out Int Unit)
  | 0, _ => none
  | m + 1, u3d =>
    if (decide (u3d < (vy.length : Int))) = true then
      (at' vy (wr.i64 ((wr.i64 (u3d + 1)) - 1))).bind fun u8a =>
      if (u8a.gKind == 5) = true then
        some (.ret (wr.i64 (u3d + 1)))
      else
        Z5b k vy m (wr.i64 (u3d + 1))
    else
      some (.done ())
def Z5c (k : Nat) (vy : List GSign) (uae : Int) : Option Int :=
  (Z5b k vy k uae).bind fun out2 => match out2 with
  | .ret r => some r
  | .done () =>
    some (vy.length : Int)
def Z5d (k : Nat) (vy : List GSign) (u61 : Int) : Option Int :=
  if (decide (u61 < 0)) = true then
    Z5c k vy 0
  else
    Z5c k vy u61
theorem Zkx {k : Nat} {vy : List GSign} {u61 : Int} {r : Int} (h : Z5d k vy u61 = some r) : FnO Tryz.prog 38 [.v (.sl (List.map GSign.c vy)) [], .v (aI u61) []] (.v (aI r) []) [] := by
  refine FnO.o2 Tryz.func38 (rfl : Tryz.f38.body = some _) ?_
  intro w0 X0 Fin pv0 pb gt
  unfold Z5d at h
  apply Wc.seq
  refine Wc.r0 ⟨[tV 0 (.sl (List.map GSign.c vy)), tI 1 u61], [], []⟩ ?_
  refine Wc.seqJ (fun st => ∃ (uae : Int), st = ⟨[tV 0 (.sl (List.map GSign.c vy)), tI 1 uae], [], []⟩ ∧ Z5c k vy uae = some r) ?_ ?_
  · apply Wc.seq
    refine Wc.r0 ⟨[tV 0 (.sl (List.map GSign.c vy)), tI 1 u61, tB 6 (decide (u61 < 0))], [], []⟩ ?_
    rcases oif h with ⟨h176, h⟩ | ⟨h176, h⟩
    · refine Wc.cT h176 ?_
      refine Wc.r0 ⟨[tV 0 (.sl (List.map GSign.c vy)), tI 1 0], [], []⟩ ?_
      exact ⟨_, rfl, h⟩
    · refine Wc.cF h176 ?_
      refine Wc.fx [] ⟨[tV 0 (.sl (List.map GSign.c vy)), tI 1 u61], [], []⟩ ?_
      refine Wc.skip ?_
      exact ⟨_, rfl, h⟩
  · rintro st ⟨uae, rfl, h⟩
    obtain ⟨out2, h172, h⟩ := Z0 h
    refine Wc.seqJ (fun st => out2 = .done () ∧ st = ⟨[tV 0 (.sl (List.map GSign.c vy))], [], []⟩) ?_ ?_
    · refine Wc.block ?_
      refine Wc.loop (fun m st => ∃ (u3d : Int), st = ⟨[tV 0 (.sl (List.map GSign.c vy)), tI 1 u3d], [], []⟩ ∧ Z5b k vy m u3d = some out2) ?_ k ⟨_, rfl, h172⟩
      rintro m st ⟨u3d, rfl, h172⟩
      cases m with
      | zero => exact (Z1r h172).elim
      | succ m =>
        apply Wc.seq
        apply Wc.seq
        refine Wc.r2 [{}, {}, { v := some (aI (vy.length : Int)) }] ⟨[tV 0 (.sl (List.map GSign.c vy)), tI 1 u3d, tB 10 (decide (u3d < (vy.length : Int)))], [], []⟩ (.cons (Zn GSign.c vy) .nil) ?_
        rcases oif h172 with ⟨h173, h172⟩ | ⟨h173, h172⟩
        · refine Wc.cT h173 ?_
          refine Wc.fx [] ⟨[tV 0 (.sl (List.map GSign.c vy)), tI 1 u3d], [], []⟩ ?_
          refine Wc.skip ?_
          refine Wc.block ?_
          apply Wc.seq
          refine Wc.r0 ⟨[tV 0 (.sl (List.map GSign.c vy)), tI 1 (wr.i64 (u3d + 1))], [], []⟩ ?_
          apply Wc.seq
          obtain ⟨u8a, h174, h172⟩ := Z0 h172
          refine Wc.r2 [{}, {}, {}, { v := some (.vptr (GSign.q u8a)) }] ⟨[tV 0 (.sl (List.map GSign.c vy)), tI 1 (wr.i64 (u3d + 1)), tB 19 (u8a.gKind == 5)], [], []⟩ (.cons (Z19 (c := GSign.c) (GSign.c_eq u8a) GSign.c_len h174) (.cons (Z18 1 (GSign.q u8a)) .nil)) ?_
          rcases oif h172 with ⟨h175, h172⟩ | ⟨h175, h172⟩
          · refine Wc.cT h175 ?_
            apply Wc.seq
            refine Wc.r0 ⟨[tI 4 (wr.i64 (u3d + 1))], [], []⟩ ?_
            refine Wc.ret ?_
            cases h172
            cases h
            exact ⟨.inl rfl, by kernel_rfl, by kernel_rfl⟩
          · refine Wc.cF h175 ?_
            refine Wc.fx [] ⟨[tV 0 (.sl (List.map GSign.c vy)), tI 1 (wr.i64 (u3d + 1))], [], []⟩ ?_
            refine Wc.skip ?_
            exact ⟨_, Nat.lt_succ_self _, _, rfl, h172⟩
        · refine Wc.cF h173 ?_
          refine Wc.fx [] ⟨[tV 0 (.sl (List.map GSign.c vy))], [], []⟩ ?_
          refine Wc.exit ?_
          cases h172
          exact ⟨rfl, rfl⟩
    · rintro st ⟨rfl, rfl⟩
      apply Wc.seq
      refine Wc.r2 [{}, { v := some (aI (vy.length : Int)) }] ⟨[tI 4 (vy.length : Int)], [], []⟩ (.cons (Zn GSign.c vy) .nil) ?_
      cases h; exact Wc.ret dn

def Z1i (k : Nat) (us : GXr) (uaf : Int) (u7c : ByteArray) : Option (GXr × Bool) :=
  if (!us.gBad) = true then
    if (decide (us.gAt < (us.gList.length : Int))) = true then
      (at' us.gList us.gAt).bind fun u56 =>
      if (u56.gKind == uaf) = true then
        if (sEq u7c (bs [])) = true then
          some (us, true)
        else
          (at' us.gList us.gAt).bind fun u62 =>
          some (us, sEq u62.gText u7c)
      else
        some (us, false)
    else
      some (us, false)
  else
    some (us, false)
theorem Z24 {k : Nat} {us : GXr} {uaf : Int} {u7c : ByteArray} {r : GXr × Bool} (h : Z1i k us uaf u7c = some r) : FnO Tryz.prog 41 [.p (GXr.k2 us) (GXr.h4_9f us), .v (aI uaf) [], .v (.str u7c) []] (.v (.bool r.2) []) [(0, .p (GXr.k2 r.1) (GXr.h4_9f r.1))] := by
  refine FnO.o2 Tryz.func41 (rfl : Tryz.f41.body = some _) ?_
  intro w0 X0 Fin pv0 pb gt
  unfold Z1i at h
  apply Wc.seq
  refine Wc.r0 ⟨[tP 0 1000000, tI 1 uaf, tS 2 u7c], [(1000000, .cells (GXr.k2 us) (GXr.h4_9f us))], []⟩ ?_
  apply Wc.seq
  rcases oif h with ⟨h177, h⟩ | ⟨h177, h⟩
  · rcases oif h with ⟨h178, h⟩ | ⟨h178, h⟩
    · obtain ⟨u56, h179, h⟩ := Z0 h
      rcases oif h with ⟨h180, h⟩ | ⟨h180, h⟩
      · rcases oif h with ⟨h181, h⟩ | ⟨h181, h⟩
        · refine Wc.draw hmix [{}, {}, {}, {}, {}, rT, {}, {}, {}, {}, {}, {}, {}, {}, { v := some (aI (us.gList.length : Int)) }, {}, {}, rT, {}, {}, {}, {}, {}, {}, {}, {}, { v := some (.vptr (GSign.q u56)) }, {}, {}, {}, {}, {}, rT, {}, {}, rT] [] [6] [1000000] [] ⟨[tB 6 true], [(1000000, .cells (GXr.k2 us) (GXr.h4_9f us))], []⟩ _ (by kernel_rfl) (fun X => by kernel_rfl) (cb h177 (.cons (Zn GSign.c us.gList) (cb h178 (.cons (Z19 (c := GSign.c) (GSign.c_eq u56) GSign.c_len h179) (.cons (Z18 1 (GSign.q u56)) (cb h180 (cb h181 .nil))))))) ?_
          cases h; exact Wc.ret dn
        · obtain ⟨u62, h182, h⟩ := Z0 h
          refine Wc.draw hmix [{}, {}, {}, {}, {}, rT, {}, {}, {}, {}, {}, {}, {}, {}, { v := some (aI (us.gList.length : Int)) }, {}, {}, rT, {}, {}, {}, {}, {}, {}, {}, {}, { v := some (.vptr (GSign.q u56)) }, {}, {}, {}, {}, {}, rT, {}, {}, rF, {}, {}, {}, {}, {}, {}, {}, {}, { v := some (.vptr (GSign.q u62)) }] [] [6] [1000000] [] ⟨[tB 6 (sEq u62.gText u7c)], [(1000000, .cells (GXr.k2 us) (GXr.h4_9f us))], []⟩ _ (by kernel_rfl) (fun X => by kernel_rfl) (cb h177 (.cons (Zn GSign.c us.gList) (cb h178 (.cons (Z19 (c := GSign.c) (GSign.c_eq u56) GSign.c_len h179) (.cons (Z18 1 (GSign.q u56)) (cb h180 (cb h181 (.cons (Z19 (c := GSign.c) (GSign.c_eq u62) GSign.c_len h182) (.cons (Z18 1 [.str u62.gText, aI u62.gNum, aI u62.gAt, .bool u62.gNear]) .nil))))))))) ?_
          cases h; exact Wc.ret dn
      · refine Wc.draw hmix [{}, {}, {}, {}, {}, rT, {}, {}, {}, {}, {}, {}, {}, {}, { v := some (aI (us.gList.length : Int)) }, {}, {}, rT, {}, {}, {}, {}, {}, {}, {}, {}, { v := some (.vptr (GSign.q u56)) }, {}, {}, {}, {}, {}, rF] [] [6] [1000000] [] ⟨[tB 6 false], [(1000000, .cells (GXr.k2 us) (GXr.h4_9f us))], []⟩ _ (by kernel_rfl) (fun X => by kernel_rfl) (cb h177 (.cons (Zn GSign.c us.gList) (cb h178 (.cons (Z19 (c := GSign.c) (GSign.c_eq u56) GSign.c_len h179) (.cons (Z18 1 (GSign.q u56)) (cb h180 .nil)))))) ?_
        cases h; exact Wc.ret dn
    · refine Wc.draw hmix [{}, {}, {}, {}, {}, rT, {}, {}, {}, {}, {}, {}, {}, {}, { v := some (aI (us.gList.length : Int)) }, {}, {}, rF] [] [6] [1000000] [] ⟨[tB 6 false], [(1000000, .cells (GXr.k2 us) (GXr.h4_9f us))], []⟩ _ (by kernel_rfl) (fun X => by kernel_rfl) (cb h177 (.cons (Zn GSign.c us.gList) (cb h178 .nil))) ?_
      cases h; exact Wc.ret dn
  · refine Wc.draw hmix [{}, {}, {}, {}, {}, rF] [] [6] [1000000] [] ⟨[tB 6 false], [(1000000, .cells (GXr.k2 us) (GXr.h4_9f us))], []⟩ _ (by kernel_rfl) (fun X => by kernel_rfl) (cb h177 .nil) ?_
    cases h; exact Wc.ret dn

def Z4q (k : Nat) (u9 : ByteArray) (uag : Bool) : Option (GOp × Bool) :=
  if uag = true then
    some (GOp.mk u9 500 500 499, true)
  else
    if (sEq u9 (bs [42])) = true then
      if (sEq u9 (bs [42])) = true then
        some (GOp.mk u9 400 400 399, true)
      else
        some (GOp.mk (bs []) 0 0 0, false)
    else
      if (sEq u9 (bs [47, 47])) = true then
        some (GOp.mk u9 400 400 399, true)
      else
        some (GOp.mk (bs []) 0 0 0, false)
def Z2q (k : Nat) (u9 : ByteArray) (uah : Bool) : Option (GOp × Bool) :=
  if uah = true then
    some (GOp.mk u9 700 699 699, true)
  else
    if (sEq u9 (bs [43])) = true then
      Z4q k u9 (sEq u9 (bs [43]))
    else
      Z4q k u9 (sEq u9 (bs [45]))
def Z4r (k : Nat) (u9 : ByteArray) (uai : Bool) : Option (GOp × Bool) :=
  if uai = true then
    some (GOp.mk u9 1200 1199 1199, true)
  else
    if (sEq u9 (bs [59])) = true then
      some (GOp.mk u9 1100 1099 1100, true)
    else
      if (sEq u9 (bs [45, 62])) = true then
        some (GOp.mk u9 1050 1049 1050, true)
      else
        if (sEq u9 (bs [44])) = true then
          some (GOp.mk u9 1000 999 1000, true)
        else
          if (sEq u9 (bs [61])) = true then
            Z2q k u9 (sEq u9 (bs [61]))
          else
            if (sEq u9 (bs [92, 61])) = true then
              Z2q k u9 (sEq u9 (bs [92, 61]))
            else
              if (sEq u9 (bs [61, 61])) = true then
                Z2q k u9 (sEq u9 (bs [61, 61]))
              else
                if (sEq u9 (bs [105, 115])) = true then
                  Z2q k u9 (sEq u9 (bs [105, 115]))
                else
                  if (sEq u9 (bs [60])) = true then
                    Z2q k u9 (sEq u9 (bs [60]))
                  else
                    Z2q k u9 (sEq u9 (bs [61, 58, 61]))
def Z1u (k : Nat) (u9 : ByteArray) : Option (GOp × Bool) :=
  if (sEq u9 (bs [58, 45])) = true then
    Z4r k u9 (sEq u9 (bs [58, 45]))
  else
    Z4r k u9 (sEq u9 (bs [45, 45, 62]))
set_option maxHeartbeats 4000000 in
theorem Z9r {k : Nat} {u9 : ByteArray} {r : GOp × Bool} (h : Z1u k u9 = some r) : FnO Tryz.prog 47 [.v (.str u9) []] (.v (.tup [.agg (GOp.q r.1), .bool r.2]) []) [] := by
  refine FnO.o2 Tryz.func47 (rfl : Tryz.f47.body = some _) ?_
  intro w0 X0 Fin pv0 pb gt
  unfold Z1u at h
  apply Wc.seq
  refine Wc.r0 ⟨[tS 0 u9, tP 2 2], [bC 2 GOp.z], []⟩ ?_
  apply Wc.seq
  apply Wc.seq
  refine Wc.r0 ⟨[tS 0 u9, tP 2 2, tS 4 u9], [bC 2 GOp.z], []⟩ ?_
  refine Wc.block ?_
  refine Wc.seqJ (fun st => ∃ (uai : Bool), st = ⟨[tS 0 u9, tP 2 2, tS 4 u9, tB 5 uai], [bC 2 GOp.z], []⟩ ∧ Z4r k u9 uai = some r) ?_ ?_
  · apply Wc.seq
    refine Wc.r0 ⟨[tS 0 u9, tP 2 2, tS 4 u9, tB 5 (sEq u9 (bs [58, 45]))], [bC 2 GOp.z], []⟩ ?_
    rcases oif h with ⟨h198, h⟩ | ⟨h198, h⟩
    · refine Wc.cT h198 ?_
      refine Wc.skip ?_
      exact ⟨_, rfl, h⟩
    · refine Wc.cF h198 ?_
      refine Wc.r0 ⟨[tS 0 u9, tP 2 2, tS 4 u9, tB 5 (sEq u9 (bs [45, 45, 62]))], [bC 2 GOp.z], []⟩ ?_
      exact ⟨_, rfl, h⟩
  · rintro st ⟨uai, rfl, h⟩
    rcases oif h with ⟨h183, h⟩ | ⟨h183, h⟩
    · refine Wc.cT h183 ?_
      apply Wc.seq
      refine Wc.r0 ⟨[tP 2 2, tB 3 true], [bC 2 [.str u9, aI 1200, aI 1199, aI 1199]], []⟩ ?_
      cases h; exact Wc.ret dn
    · refine Wc.cF h183 ?_
      apply Wc.seq
      refine Wc.r0 ⟨[tS 0 u9, tP 2 2, tS 4 u9, tB 10 (sEq u9 (bs [59]))], [bC 2 GOp.z], []⟩ ?_
      rcases oif h with ⟨h184, h⟩ | ⟨h184, h⟩
      · refine Wc.cT h184 ?_
        apply Wc.seq
        refine Wc.r0 ⟨[tP 2 2, tB 3 true], [bC 2 [.str u9, aI 1100, aI 1099, aI 1100]], []⟩ ?_
        cases h; exact Wc.ret dn
      · refine Wc.cF h184 ?_
        apply Wc.seq
        refine Wc.r0 ⟨[tS 0 u9, tP 2 2, tS 4 u9, tB 14 (sEq u9 (bs [45, 62]))], [bC 2 GOp.z], []⟩ ?_
        rcases oif h with ⟨h185, h⟩ | ⟨h185, h⟩
        · refine Wc.cT h185 ?_
          apply Wc.seq
          refine Wc.r0 ⟨[tP 2 2, tB 3 true], [bC 2 [.str u9, aI 1050, aI 1049, aI 1050]], []⟩ ?_
          cases h; exact Wc.ret dn
        · refine Wc.cF h185 ?_
          apply Wc.seq
          refine Wc.r0 ⟨[tS 0 u9, tP 2 2, tS 4 u9, tB 18 (sEq u9 (bs [44]))], [bC 2 GOp.z], []⟩ ?_
          rcases oif h with ⟨h186, h⟩ | ⟨h186, h⟩
          · refine Wc.cT h186 ?_
            apply Wc.seq
            refine Wc.r0 ⟨[tP 2 2, tB 3 true], [bC 2 [.str u9, aI 1000, aI 999, aI 1000]], []⟩ ?_
            cases h; exact Wc.ret dn
          · refine Wc.cF h186 ?_
            refine Wc.seqJ (fun st => ∃ (uah : Bool), st = ⟨[tS 0 u9, tP 2 2, tS 4 u9, tB 22 uah], [bC 2 GOp.z], []⟩ ∧ Z2q k u9 uah = some r) ?_ ?_
            · apply Wc.seq
              refine Wc.r0 ⟨[tS 0 u9, tP 2 2, tS 4 u9, tB 22 (sEq u9 (bs [61]))], [bC 2 GOp.z], []⟩ ?_
              rcases oif h with ⟨h193, h⟩ | ⟨h193, h⟩
              · refine Wc.cT h193 ?_
                refine Wc.skip ?_
                exact ⟨_, rfl, h⟩
              · refine Wc.cF h193 ?_
                apply Wc.seq
                refine Wc.r0 ⟨[tS 0 u9, tP 2 2, tS 4 u9, tB 22 (sEq u9 (bs [92, 61]))], [bC 2 GOp.z], []⟩ ?_
                rcases oif h with ⟨h194, h⟩ | ⟨h194, h⟩
                · refine Wc.cT h194 ?_
                  refine Wc.skip ?_
                  exact ⟨_, rfl, h⟩
                · refine Wc.cF h194 ?_
                  apply Wc.seq
                  refine Wc.r0 ⟨[tS 0 u9, tP 2 2, tS 4 u9, tB 22 (sEq u9 (bs [61, 61]))], [bC 2 GOp.z], []⟩ ?_
                  rcases oif h with ⟨h195, h⟩ | ⟨h195, h⟩
                  · refine Wc.cT h195 ?_
                    refine Wc.skip ?_
                    exact ⟨_, rfl, h⟩
                  · refine Wc.cF h195 ?_
                    apply Wc.seq
                    refine Wc.r0 ⟨[tS 0 u9, tP 2 2, tS 4 u9, tB 22 (sEq u9 (bs [105, 115]))], [bC 2 GOp.z], []⟩ ?_
                    rcases oif h with ⟨h196, h⟩ | ⟨h196, h⟩
                    · refine Wc.cT h196 ?_
                      refine Wc.skip ?_
                      exact ⟨_, rfl, h⟩
                    · refine Wc.cF h196 ?_
                      apply Wc.seq
                      refine Wc.r0 ⟨[tS 0 u9, tP 2 2, tS 4 u9, tB 22 (sEq u9 (bs [60]))], [bC 2 GOp.z], []⟩ ?_
                      rcases oif h with ⟨h197, h⟩ | ⟨h197, h⟩
                      · refine Wc.cT h197 ?_
                        refine Wc.skip ?_
                        exact ⟨_, rfl, h⟩
                      · refine Wc.cF h197 ?_
                        refine Wc.r0 ⟨[tS 0 u9, tP 2 2, tS 4 u9, tB 22 (sEq u9 (bs [61, 58, 61]))], [bC 2 GOp.z], []⟩ ?_
                        exact ⟨_, rfl, h⟩
            · rintro st ⟨uah, rfl, h⟩
              rcases oif h with ⟨h187, h⟩ | ⟨h187, h⟩
              · refine Wc.cT h187 ?_
                apply Wc.seq
                refine Wc.r0 ⟨[tP 2 2, tB 3 true], [bC 2 [.str u9, aI 700, aI 699, aI 699]], []⟩ ?_
                cases h; exact Wc.ret dn
              · refine Wc.cF h187 ?_
                refine Wc.seqJ (fun st => ∃ (uag : Bool), st = ⟨[tS 0 u9, tP 2 2, tS 4 u9, tB 31 uag], [bC 2 GOp.z], []⟩ ∧ Z4q k u9 uag = some r) ?_ ?_
                · apply Wc.seq
                  refine Wc.r0 ⟨[tS 0 u9, tP 2 2, tS 4 u9, tB 31 (sEq u9 (bs [43]))], [bC 2 GOp.z], []⟩ ?_
                  rcases oif h with ⟨h192, h⟩ | ⟨h192, h⟩
                  · refine Wc.cT h192 ?_
                    refine Wc.skip ?_
                    exact ⟨_, rfl, h⟩
                  · refine Wc.cF h192 ?_
                    refine Wc.r0 ⟨[tS 0 u9, tP 2 2, tS 4 u9, tB 31 (sEq u9 (bs [45]))], [bC 2 GOp.z], []⟩ ?_
                    exact ⟨_, rfl, h⟩
                · rintro st ⟨uag, rfl, h⟩
                  rcases oif h with ⟨h188, h⟩ | ⟨h188, h⟩
                  · refine Wc.cT h188 ?_
                    apply Wc.seq
                    refine Wc.r0 ⟨[tP 2 2, tB 3 true], [bC 2 [.str u9, aI 500, aI 500, aI 499]], []⟩ ?_
                    cases h; exact Wc.ret dn
                  · refine Wc.cF h188 ?_
                    apply Wc.seq
                    apply Wc.seq
                    refine Wc.r0 ⟨[tS 0 u9, tP 2 2, tS 4 u9, tB 36 (sEq u9 (bs [42]))], [bC 2 GOp.z], []⟩ ?_
                    rcases oif h with ⟨h189, h⟩ | ⟨h189, h⟩
                    · refine Wc.cT h189 ?_
                      refine Wc.fx [] ⟨[tS 0 u9, tP 2 2, tB 36 (sEq u9 (bs [42]))], [bC 2 GOp.z], []⟩ ?_
                      refine Wc.skip ?_
                      rcases oif h with ⟨h190, h⟩ | ⟨h190, h⟩
                      · refine Wc.cT h190 ?_
                        apply Wc.seq
                        refine Wc.r0 ⟨[tP 2 2, tB 3 true], [bC 2 [.str u9, aI 400, aI 400, aI 399]], []⟩ ?_
                        cases h; exact Wc.ret dn
                      · refine Wc.cF h190 ?_
                        refine Wc.fx [] ⟨[tP 2 2], [bC 2 GOp.z], []⟩ ?_
                        refine Wc.skip ?_
                        apply Wc.seq
                        refine Wc.r0 ⟨[tP 2 2, tB 3 false], [bC 2 GOp.z], []⟩ ?_
                        cases h; exact Wc.ret dn
                    · refine Wc.cF h189 ?_
                      refine Wc.r0 ⟨[tS 0 u9, tP 2 2, tB 36 (sEq u9 (bs [47, 47]))], [bC 2 GOp.z], []⟩ ?_
                      rcases oif h with ⟨h191, h⟩ | ⟨h191, h⟩
                      · refine Wc.cT h191 ?_
                        apply Wc.seq
                        refine Wc.r0 ⟨[tP 2 2, tB 3 true], [bC 2 [.str u9, aI 400, aI 400, aI 399]], []⟩ ?_
                        cases h; exact Wc.ret dn
                      · refine Wc.cF h191 ?_
                        refine Wc.fx [] ⟨[tP 2 2], [bC 2 GOp.z], []⟩ ?_
                        refine Wc.skip ?_
                        apply Wc.seq
                        refine Wc.r0 ⟨[tP 2 2, tB 3 false], [bC 2 GOp.z], []⟩ ?_
                        cases h; exact Wc.ret dn

def Z2y (k : Nat) (u0s : ByteArray) : Option (GOp × Bool) :=
  if (sEq u0s (bs [58, 45])) = true then
    some (GOp.mk u0s 1200 0 1199, true)
  else
    if (sEq u0s (bs [92, 43])) = true then
      some (GOp.mk u0s 900 0 900, true)
    else
      if (sEq u0s (bs [45])) = true then
        some (GOp.mk u0s 200 0 200, true)
      else
        some (GOp.mk (bs []) 0 0 0, false)
theorem Zgm {k : Nat} {u0s : ByteArray} {r : GOp × Bool} (h : Z2y k u0s = some r) : FnO Tryz.prog 74 [.v (.str u0s) []] (.v (.tup [.agg (GOp.q r.1), .bool r.2]) []) [] := by
  refine FnO.o2 Tryz.func74 (rfl : Tryz.f74.body = some _) ?_
  intro w0 X0 Fin pv0 pb gt
  unfold Z2y at h
  apply Wc.seq
  refine Wc.r0 ⟨[tS 0 u0s, tP 2 2], [bC 2 GOp.z], []⟩ ?_
  apply Wc.seq
  apply Wc.seq
  refine Wc.r0 ⟨[tS 0 u0s, tP 2 2, tS 4 u0s], [bC 2 GOp.z], []⟩ ?_
  refine Wc.block ?_
  apply Wc.seq
  refine Wc.r0 ⟨[tS 0 u0s, tP 2 2, tS 4 u0s, tB 5 (sEq u0s (bs [58, 45]))], [bC 2 GOp.z], []⟩ ?_
  rcases oif h with ⟨h199, h⟩ | ⟨h199, h⟩
  · refine Wc.cT h199 ?_
    apply Wc.seq
    refine Wc.r0 ⟨[tP 2 2, tB 3 true], [bC 2 [.str u0s, aI 1200, aI 0, aI 1199]], []⟩ ?_
    cases h; exact Wc.ret dn
  · refine Wc.cF h199 ?_
    apply Wc.seq
    refine Wc.r0 ⟨[tS 0 u0s, tP 2 2, tS 4 u0s, tB 9 (sEq u0s (bs [92, 43]))], [bC 2 GOp.z], []⟩ ?_
    rcases oif h with ⟨h200, h⟩ | ⟨h200, h⟩
    · refine Wc.cT h200 ?_
      apply Wc.seq
      refine Wc.r0 ⟨[tP 2 2, tB 3 true], [bC 2 [.str u0s, aI 900, aI 0, aI 900]], []⟩ ?_
      cases h; exact Wc.ret dn
    · refine Wc.cF h200 ?_
      apply Wc.seq
      refine Wc.r0 ⟨[tS 0 u0s, tP 2 2, tB 13 (sEq u0s (bs [45]))], [bC 2 GOp.z], []⟩ ?_
      rcases oif h with ⟨h201, h⟩ | ⟨h201, h⟩
      · refine Wc.cT h201 ?_
        apply Wc.seq
        refine Wc.r0 ⟨[tP 2 2, tB 3 true], [bC 2 [.str u0s, aI 200, aI 0, aI 200]], []⟩ ?_
        cases h; exact Wc.ret dn
      · refine Wc.cF h201 ?_
        refine Wc.fx [] ⟨[tP 2 2], [bC 2 GOp.z], []⟩ ?_
        refine Wc.skip ?_
        apply Wc.seq
        refine Wc.r0 ⟨[tP 2 2, tB 3 false], [bC 2 GOp.z], []⟩ ?_
        cases h; exact Wc.ret dn

def Z9f (k : Nat) (u8b : Int) : Option GTerm :=
  some (GTerm.mk 3 (bs []) u8b [])
theorem Zl1 {k : Nat} {u8b : Int} {r : GTerm} (h : Z9f k u8b = some r) : FnO Tryz.prog 100 [.v (aI u8b) []] (.v (.agg (GTerm.q r)) [(3, .app 29)]) [] := by
  refine FnO.o2 Tryz.func100 (rfl : Tryz.f100.body = some _) ?_
  intro w0 X0 Fin pv0 pb gt
  unfold Z9f at h
  apply Wc.seq
  refine Wc.r0 ⟨[tI 0 u8b, tP 2 2], [bX0 2], []⟩ ?_
  apply Wc.seq
  refine Wc.r1 [{}, {}, { tk := [4] }] ⟨[tP 2 2], [(2, .cells [aI 3, .str (bs []), aI u8b, .sl (List.map GTerm.c [])] [(3, .app 29)])], []⟩ ?_
  cases h; exact Wc.ret dn

def Z14 (k : Nat) (u40 : GXr) (uaj : ByteArray) : Option (GXr × Bool) :=
  (Z1i k u40 4 uaj).bind fun vk =>
  if vk.2 = true then
    some (GXr.mk vk.1.gList (wr.i64 (vk.1.gAt + 1)) vk.1.gBad vk.1.gDeep vk.1.gNames, true)
  else
    some (vk.1, false)
theorem Z3s {k : Nat} {u40 : GXr} {uaj : ByteArray} {r : GXr × Bool} (h : Z14 k u40 uaj = some r) : FnO Tryz.prog 97 [.p (GXr.k2 u40) (GXr.h4_9f u40), .v (.str uaj) []] (.v (.bool r.2) []) [(0, .p (GXr.k2 r.1) (GXr.h4_9f r.1))] := by
  refine FnO.o2 Tryz.func97 (rfl : Tryz.f97.body = some _) ?_
  intro w0 X0 Fin pv0 pb gt
  unfold Z14 at h
  apply Wc.seq
  refine Wc.r0 ⟨[tP 0 1000000, tS 1 uaj], [(1000000, .cells (GXr.k2 u40) (GXr.h4_9f u40))], []⟩ ?_
  apply Wc.seq
  apply Wc.seq
  obtain ⟨vk, h202, h⟩ := Z0 h
  refine Wc.r2 [{}, {}, { r := some (.v (.bool vk.2) []), outs := [(0, .p (GXr.k2 vk.1) (GXr.h4_9f vk.1))] }] ⟨[tP 0 1000000, tB 7 vk.2], [(1000000, .cells (GXr.k2 vk.1) (GXr.h4_9f vk.1))], []⟩ (.cons (Z24 h202) .nil) ?_
  rcases oif h with ⟨h203, h⟩ | ⟨h203, h⟩
  · refine Wc.cT h203 ?_
    apply Wc.seq
    refine Wc.r0 ⟨[], [(1000000, .cells [.sl (List.map GSign.c vk.1.gList), aI (wr.i64 (vk.1.gAt + 1)), .bool vk.1.gBad, aI vk.1.gDeep, .slx] (GXr.h4_9f vk.1))], []⟩ ?_
    apply Wc.seq
    refine Wc.r0 ⟨[tB 4 true], [(1000000, .cells [.sl (List.map GSign.c vk.1.gList), aI (wr.i64 (vk.1.gAt + 1)), .bool vk.1.gBad, aI vk.1.gDeep, .slx] (GXr.h4_9f vk.1))], []⟩ ?_
    cases h; exact Wc.ret dn
  · refine Wc.cF h203 ?_
    refine Wc.fx [] ⟨[], [(1000000, .cells (GXr.k2 vk.1) (GXr.h4_9f vk.1))], []⟩ ?_
    refine Wc.skip ?_
    apply Wc.seq
    refine Wc.r0 ⟨[tB 4 false], [(1000000, .cells (GXr.k2 vk.1) (GXr.h4_9f vk.1))], []⟩ ?_
    cases h; exact Wc.ret dn

def Z12 (k : Nat) (u6i : GXr) (udy : ByteArray) : Option GXr :=
  (Z14 k u6i udy).bind fun zo =>
  if (!zo.2) = true then
    some (GXr.mk zo.1.gList zo.1.gAt true zo.1.gDeep zo.1.gNames)
  else
    some zo.1
theorem Z61 {k : Nat} {u6i : GXr} {udy : ByteArray} {r : GXr} (h : Z12 k u6i udy = some r) : FnO Tryz.prog 120 [.p (GXr.k2 u6i) (GXr.h4_9f u6i), .v (.str udy) []] (.v (.tup []) []) [(0, .p (GXr.k2 r) (GXr.h4_9f r))] := by
  refine FnO.o2 Tryz.func120 (rfl : Tryz.f120.body = some _) ?_
  intro w0 X0 Fin pv0 pb gt
  unfold Z12 at h
  apply Wc.seq
  obtain ⟨zo, h204, h⟩ := Z0 h
  refine Wc.r2 [{}, {}, { r := some (.v (.bool zo.2) []), outs := [(0, .p (GXr.k2 zo.1) (GXr.h4_9f zo.1))] }] ⟨[tP 0 1000000, tB 7 (!zo.2)], [(1000000, .cells (GXr.k2 zo.1) (GXr.h4_9f zo.1))], []⟩ (.cons (Z3s h204) .nil) ?_
  rcases oif h with ⟨h205, h⟩ | ⟨h205, h⟩
  · refine Wc.cT h205 ?_
    refine Wc.r0 ⟨[], [(1000000, .cells [.sl (List.map GSign.c zo.1.gList), aI zo.1.gAt, .bool true, aI zo.1.gDeep, .slx] (GXr.h4_9f zo.1))], []⟩ ?_
    cases h
    exact ⟨(by first | exact .inl rfl | exact .inr rfl), by kernel_rfl, by kernel_rfl⟩
  · refine Wc.cF h205 ?_
    refine Wc.fx [] ⟨[], [(1000000, .cells (GXr.k2 zo.1) (GXr.h4_9f zo.1))], []⟩ ?_
    refine Wc.skip ?_
    cases h
    exact ⟨(by first | exact .inl rfl | exact .inr rfl), by kernel_rfl, by kernel_rfl⟩

def Z5a (k : Nat) (va : GXr) : Option (GXr × Bool) :=
  if (decide ((wr.i64 (va.gAt + 1)) < (va.gList.length : Int))) = true then
    (at' va.gList (wr.i64 (va.gAt + 1))).bind fun u6j =>
    if (u6j.gKind == 3) = true then
      (at' va.gList (wr.i64 (va.gAt + 1))).bind fun u7d =>
      (at' va.gList va.gAt).bind fun u7e =>
      some (va, (u7d.gAt == (wr.i64 (u7e.gAt + 1))))
    else
      some (va, false)
  else
    some (va, false)
theorem Zgj {k : Nat} {va : GXr} {r : GXr × Bool} (h : Z5a k va = some r) : FnO Tryz.prog 118 [.p (GXr.k2 va) (GXr.h4_9f va)] (.v (.bool r.2) []) [(0, .p (GXr.k2 r.1) (GXr.h4_9f r.1))] := by
  refine FnO.o2 Tryz.func118 (rfl : Tryz.f118.body = some _) ?_
  intro w0 X0 Fin pv0 pb gt
  unfold Z5a at h
  apply Wc.seq
  refine Wc.r0 ⟨[tP 0 1000000], [(1000000, .cells (GXr.k2 va) (GXr.h4_9f va))], []⟩ ?_
  apply Wc.seq
  rcases oif h with ⟨h206, h⟩ | ⟨h206, h⟩
  · obtain ⟨u6j, h207, h⟩ := Z0 h
    rcases oif h with ⟨h208, h⟩ | ⟨h208, h⟩
    · obtain ⟨u7d, h209, h⟩ := Z0 h
      obtain ⟨u7e, h210, h⟩ := Z0 h
      refine Wc.draw hmix [{}, {}, {}, {}, {}, {}, {}, {}, {}, { v := some (aI (va.gList.length : Int)) }, {}, rT, {}, {}, {}, {}, {}, {}, {}, {}, {}, { v := some (.vptr (GSign.q u6j)) }, {}, {}, {}, {}, rT, {}, {}, {}, {}, {}, {}, {}, {}, {}, { v := some (.vptr (GSign.q u7d)) }, {}, {}, {}, {}, {}, {}, {}, {}, {}, {}, { v := some (.vptr (GSign.q u7e)) }] [] [2] [1000000] [] ⟨[tB 2 (u7d.gAt == (wr.i64 (u7e.gAt + 1)))], [(1000000, .cells (GXr.k2 va) (GXr.h4_9f va))], []⟩ _ (by kernel_rfl) (fun X => by kernel_rfl) (.cons (Zn GSign.c va.gList) (cb h206 (.cons (Z19 (c := GSign.c) (GSign.c_eq u6j) GSign.c_len h207) (.cons (Z18 1 (GSign.q u6j)) (cb h208 (.cons (Z19 (c := GSign.c) (GSign.c_eq u7d) GSign.c_len h209) (.cons (Z18 1 [aI u7d.gAt, .bool u7d.gNear]) (.cons (Z19 (c := GSign.c) (GSign.c_eq u7e) GSign.c_len h210) (.cons (Z18 1 [aI u7e.gAt, .bool u7e.gNear]) .nil))))))))) ?_
      cases h; exact Wc.ret dn
    · refine Wc.draw hmix [{}, {}, {}, {}, {}, {}, {}, {}, {}, { v := some (aI (va.gList.length : Int)) }, {}, rT, {}, {}, {}, {}, {}, {}, {}, {}, {}, { v := some (.vptr (GSign.q u6j)) }, {}, {}, {}, {}, rF] [] [2] [1000000] [] ⟨[tB 2 false], [(1000000, .cells (GXr.k2 va) (GXr.h4_9f va))], []⟩ _ (by kernel_rfl) (fun X => by kernel_rfl) (.cons (Zn GSign.c va.gList) (cb h206 (.cons (Z19 (c := GSign.c) (GSign.c_eq u6j) GSign.c_len h207) (.cons (Z18 1 (GSign.q u6j)) (cb h208 .nil))))) ?_
      cases h; exact Wc.ret dn
  · refine Wc.draw hmix [{}, {}, {}, {}, {}, {}, {}, {}, {}, { v := some (aI (va.gList.length : Int)) }, {}, rF] [] [2] [1000000] [] ⟨[tB 2 false], [(1000000, .cells (GXr.k2 va) (GXr.h4_9f va))], []⟩ _ (by kernel_rfl) (fun X => by kernel_rfl) (.cons (Zn GSign.c va.gList) (cb h206 .nil)) ?_
    cases h; exact Wc.ret dn

def Z5l (k : Nat) (u8c : ByteArray) : Option GTerm :=
  some (GTerm.mk 2 u8c 0 [])
theorem Zbi {k : Nat} {u8c : ByteArray} {r : GTerm} (h : Z5l k u8c = some r) : FnO Tryz.prog 119 [.v (.str u8c) []] (.v (.agg (GTerm.q r)) [(3, .app 29)]) [] := by
  refine FnO.o2 Tryz.func119 (rfl : Tryz.f119.body = some _) ?_
  intro w0 X0 Fin pv0 pb gt
  unfold Z5l at h
  apply Wc.seq
  refine Wc.r0 ⟨[tS 0 u8c, tP 2 2], [bX0 2], []⟩ ?_
  apply Wc.seq
  refine Wc.r1 [{}, {}, { tk := [4] }] ⟨[tP 2 2], [(2, .cells [aI 2, .str u8c, aI 0, .sl (List.map GTerm.c [])] [(3, .app 29)])], []⟩ ?_
  cases h; exact Wc.ret dn

def Zao (k : Nat) (u8d : ByteArray) (u63 : GTerm) (u64 : GTerm) : Option GTerm :=
  some (GTerm.mk 4 u8d 0 [u63, u64])
theorem Zl0 {k : Nat} {u8d : ByteArray} {u63 : GTerm} {u64 : GTerm} {r : GTerm} (h : Zao k u8d u63 u64 = some r) : FnO Tryz.prog 72 [.v (.str u8d) [], .v (.agg (GTerm.q u63)) [], .v (.agg (GTerm.q u64)) []] (.v (.agg (GTerm.q r)) [(3, .app 29)]) [] := by
  refine FnO.o2 Tryz.func72 (rfl : Tryz.f72.body = some _) ?_
  intro w0 X0 Fin pv0 pb gt
  unfold Zao at h
  apply Wc.seq
  refine Wc.r0 ⟨[tS 0 u8d, tP 4 4, tP 5 5, tP 6 6], [bC 4 (GTerm.q u63), bC 5 (GTerm.q u64), bX0 6], []⟩ ?_
  apply Wc.seq
  refine Wc.r2 [{}, {}, {}, { c := some (List.map GTerm.c [u63, u64]) }, { tk := [10] }, { tk := [11] }] ⟨[tP 6 6], [(6, .cells [aI 4, .str u8d, aI 0, .sl (List.map GTerm.c [u63, u64])] [(3, .app 29)])], []⟩ (.cons (Z3r (c := GTerm.c) (x := u63) (GTerm.c_eq u63) (Z3r (c := GTerm.c) (x := u64) (GTerm.c_eq u64) (Z4g GTerm.c))) .nil) ?_
  cases h; exact Wc.ret dn

def Zan (k : Nat) (u8e : Int) : Option GTerm :=
  some (GTerm.mk 1 (bs []) u8e [])
theorem Zkz {k : Nat} {u8e : Int} {r : GTerm} (h : Zan k u8e = some r) : FnO Tryz.prog 121 [.v (aI u8e) []] (.v (.agg (GTerm.q r)) [(3, .app 29)]) [] := by
  refine FnO.o2 Tryz.func121 (rfl : Tryz.f121.body = some _) ?_
  intro w0 X0 Fin pv0 pb gt
  unfold Zan at h
  apply Wc.seq
  refine Wc.r0 ⟨[tI 0 u8e, tP 2 2], [bX0 2], []⟩ ?_
  apply Wc.seq
  refine Wc.r1 [{}, {}, { tk := [4] }] ⟨[tP 2 2], [(2, .cells [aI 1, .str (bs []), aI u8e, .sl (List.map GTerm.c [])] [(3, .app 29)])], []⟩ ?_
  cases h; exact Wc.ret dn

def Z2v (k : Nat) (ua : GXr) (vf : ByteArray) : Option (GXr × GTerm) :=
  if ua.gNames.length + [vf].length ≤ 1073741824 then
    (Zan k (wr.i64 (((ua.gNames ++ [vf]).length : Int) - 1))).bind fun udz =>
    some (GXr.mk ua.gList ua.gAt ua.gBad ua.gDeep (ua.gNames ++ [vf]), udz)
  else none
def Z2a (k : Nat) (ua : GXr) (vf : ByteArray) : Nat → Int → Option (Out (GXr × GTerm) Unit)
  | 0, _ => none
  | m + 1, u3r =>
    if (decide (u3r < (ua.gNames.length : Int))) = true then
      (at' ua.gNames u3r).bind fun uak =>
      if (sEq uak vf) = true then
        (Zan k u3r).bind fun ue0 =>
        some (.ret (ua, ue0))
      else
        Z2a k ua vf m (wr.i64 (u3r + 1))
    else
      some (.done ())
def Z2w (k : Nat) (ua : GXr) (vf : ByteArray) : Option (GXr × GTerm) :=
  if (!(sEq vf (bs [95]))) = true then
    (Z2a k ua vf k 0).bind fun out2 => match out2 with
    | .ret r => some r
    | .done () =>
      Z2v k ua vf
  else
    Z2v k ua vf
theorem Zc8 {k : Nat} {ua : GXr} {vf : ByteArray} {r : GXr × GTerm} (h : Z2w k ua vf = some r) : FnO Tryz.prog 101 [.p (GXr.k2 ua) (GXr.h4_9f ua), .v (.str vf) []] (.v (.agg (GTerm.q r.2)) [(3, .app 29)]) [(0, .p (GXr.k2 r.1) (GXr.h4_9f r.1))] := by
  refine FnO.o2 Tryz.func101 (rfl : Tryz.f101.body = some _) ?_
  intro w0 X0 Fin pv0 pb gt
  unfold Z2w at h
  apply Wc.seq
  refine Wc.r0 ⟨[tP 0 1000000, tS 1 vf, tP 4 4], [bX0 4, (1000000, .cells (GXr.k2 ua) (GXr.h4_9f ua))], []⟩ ?_
  refine Wc.seqJ (fun st => st = ⟨[tP 0 1000000, tS 1 vf, tP 4 4], [bX0 4, (1000000, .cells (GXr.k2 ua) (GXr.h4_9f ua))], []⟩ ∧ Z2v k ua vf = some r) ?_ ?_
  · apply Wc.seq
    refine Wc.r0 ⟨[tP 0 1000000, tS 1 vf, tP 4 4, tB 7 (!(sEq vf (bs [95])))], [bX0 4, (1000000, .cells (GXr.k2 ua) (GXr.h4_9f ua))], []⟩ ?_
    rcases oif h with ⟨h221, h⟩ | ⟨h221, h⟩
    · refine Wc.cT h221 ?_
      apply Wc.seq
      refine Wc.r0 ⟨[tP 0 1000000, tS 1 vf, tP 4 4, tI 5 0], [bX0 4, (1000000, .cells (GXr.k2 ua) (GXr.h4_9f ua))], []⟩ ?_
      obtain ⟨out2, h222, h⟩ := Z0 h
      refine Wc.lastJ (fun st => out2 = .done () ∧ st = ⟨[tP 0 1000000, tS 1 vf, tP 4 4], [bX0 4, (1000000, .cells (GXr.k2 ua) (GXr.h4_9f ua))], []⟩) ?_ ?_
      · refine Wc.block ?_
        refine Wc.loop (fun m st => ∃ (u3r : Int), st = ⟨[tP 0 1000000, tS 1 vf, tP 4 4, tI 5 u3r], [bX0 4, (1000000, .cells (GXr.k2 ua) (GXr.h4_9f ua))], []⟩ ∧ Z2a k ua vf m u3r = some out2) ?_ k ⟨_, rfl, h222⟩
        rintro m st ⟨u3r, rfl, h222⟩
        cases m with
        | zero => exact (Z1r h222).elim
        | succ m =>
          apply Wc.seq
          apply Wc.seq
          refine Wc.r2 [{}, {}, {}, {}, {}, { v := some (aI (ua.gNames.length : Int)) }] ⟨[tP 0 1000000, tS 1 vf, tP 4 4, tI 5 u3r, tB 14 (decide (u3r < (ua.gNames.length : Int)))], [bX0 4, (1000000, .cells (GXr.k2 ua) (GXr.h4_9f ua))], []⟩ (.cons (Zn cS ua.gNames) .nil) ?_
          rcases oif h222 with ⟨h223, h222⟩ | ⟨h223, h222⟩
          · refine Wc.cT h223 ?_
            refine Wc.fx [] ⟨[tP 0 1000000, tS 1 vf, tP 4 4, tI 5 u3r], [bX0 4, (1000000, .cells (GXr.k2 ua) (GXr.h4_9f ua))], []⟩ ?_
            refine Wc.skip ?_
            apply Wc.seq
            refine Wc.block ?_
            apply Wc.seq
            obtain ⟨uak, h224, h222⟩ := Z0 h222
            refine Wc.r2 [{}, {}, {}, {}, {}, {}, { v := some (.str uak) }] ⟨[tP 0 1000000, tS 1 vf, tP 4 4, tI 5 u3r, tB 25 (sEq uak vf)], [bX0 4, (1000000, .cells (GXr.k2 ua) (GXr.h4_9f ua))], []⟩ (.cons (Zsx (c := cS) Zht h224) (.cons (Zw4 (sz := 1) (off := 0) (s := 1) (ag := false) (v := .str uak) (c := cS) rfl (Zd9 h224).2 rfl (Nat.le_of_ble_eq_true rfl) rfl) .nil)) ?_
            rcases oif h222 with ⟨h225, h222⟩ | ⟨h225, h222⟩
            · refine Wc.cT h225 ?_
              apply Wc.seq
              obtain ⟨ue0, h226, h222⟩ := Z0 h222
              refine Wc.r2 [{}, { r := some (.v (.agg (GTerm.q ue0)) [(3, .app 29)]) }, { tk := [27] }] ⟨[tP 4 4], [(4, .cells (GTerm.q ue0) [(3, .app 29)]), (1000000, .cells (GXr.k2 ua) (GXr.h4_9f ua))], []⟩ (.cons (Zkz h226) .nil) ?_
              refine Wc.ret ?_
              cases h222
              cases h
              exact ⟨.inl rfl, by kernel_rfl, by kernel_rfl⟩
            · refine Wc.cF h225 ?_
              refine Wc.fx [] ⟨[tP 0 1000000, tS 1 vf, tP 4 4, tI 5 u3r], [bX0 4, (1000000, .cells (GXr.k2 ua) (GXr.h4_9f ua))], []⟩ ?_
              refine Wc.skip ?_
              refine Wc.r0 ⟨[tP 0 1000000, tS 1 vf, tP 4 4, tI 5 (wr.i64 (u3r + 1))], [bX0 4, (1000000, .cells (GXr.k2 ua) (GXr.h4_9f ua))], []⟩ ?_
              exact ⟨_, Nat.lt_succ_self _, _, rfl, h222⟩
          · refine Wc.cF h223 ?_
            refine Wc.fx [] ⟨[tP 0 1000000, tS 1 vf, tP 4 4], [bX0 4, (1000000, .cells (GXr.k2 ua) (GXr.h4_9f ua))], []⟩ ?_
            refine Wc.exit ?_
            cases h222
            exact ⟨rfl, rfl⟩
      · rintro st ⟨rfl, rfl⟩
        exact ⟨rfl, h⟩
    · refine Wc.cF h221 ?_
      refine Wc.fx [] ⟨[tP 0 1000000, tS 1 vf, tP 4 4], [bX0 4, (1000000, .cells (GXr.k2 ua) (GXr.h4_9f ua))], []⟩ ?_
      refine Wc.skip ?_
      exact ⟨rfl, h⟩
  · rintro st ⟨rfl, h⟩
    apply Wc.seq
    obtain ⟨h219, h⟩ := Zg h
    refine Wc.r2 [{}, {}, {}, {}, { md := 1 }, {}, { c := some (List.map cS [vf]) }, { c := some (List.map cS (ua.gNames ++ [vf])), tk := [32], md := 1 }, {}, {}, { tk := [35] }] ⟨[tP 0 1000000, tP 4 4], [bX0 4, (1000000, .cells (GXr.k2 ua) [(4, .ex 9 false (List.map cS (ua.gNames ++ [vf])))])], []⟩ (.cons (Z3r (c := cS) (x := vf) rfl (Z4g cS)) (.cons (Z75 cS ua.gNames [vf]) (.cons (Z53 (c := cS) (ys := [vf]) Zj7) (.cons (Z52 (c := cS) (xs := ua.gNames) (ys := [vf]) Zht h219) .nil)))) ?_
    apply Wc.seq
    obtain ⟨udz, h220, h⟩ := Z0 h
    refine Wc.r2 [{}, {}, {}, {}, { v := some (aI ((ua.gNames ++ [vf]).length : Int)) }, {}, { r := some (.v (.agg (GTerm.q udz)) [(3, .app 29)]) }, { tk := [44] }] ⟨[tP 4 4], [(4, .cells (GTerm.q udz) [(3, .app 29)]), (1000000, .cells (GXr.k2 ua) [(4, .ex 9 false (List.map cS (ua.gNames ++ [vf])))])], []⟩ (.cons (Zn cS (ua.gNames ++ [vf])) (.cons (Zkz h220) .nil)) ?_
    cases h; exact Wc.ret dn

def Z3q (k : Nat) (ual : Bool) (zx : GXr) : Option (GXr × GOp × Bool) :=
  if ual = true then
    (at' zx.gList zx.gAt).bind fun u6k =>
    (Z1u k u6k.gText).bind fun u7f =>
    some (zx, u7f.1, u7f.2)
  else
    some (zx, GOp.mk (bs []) 0 0 0, false)
def Z4x (k : Nat) (u41 : GXr) : Option (GXr × GOp × Bool) :=
  (Z1i k u41 4 (bs [44])).bind fun u07 =>
  if u07.2 = true then
    (Z1u k (bs [44])).bind fun u7g =>
    some (u07.1, u7g.1, u7g.2)
  else
    (Z1i k u07.1 1 (bs [])).bind fun zp =>
    if zp.2 = true then
      (at' zp.1.gList zp.1.gAt).bind fun u8f =>
      Z3q k (!u8f.gNear) zp.1
    else
      Z3q k false zp.1
theorem Zei {k : Nat} {u41 : GXr} {r : GXr × GOp × Bool} (h : Z4x k u41 = some r) : FnO Tryz.prog 71 [.p (GXr.k2 u41) (GXr.h4_9f u41)] (.v (.tup [.agg (GOp.q r.2.1), .bool r.2.2]) []) [(0, .p (GXr.k2 r.1) (GXr.h4_9f r.1))] := by
  refine FnO.o2 Tryz.func71 (rfl : Tryz.f71.body = some _) ?_
  intro w0 X0 Fin pv0 pb gt
  unfold Z4x at h
  apply Wc.seq
  refine Wc.r0 ⟨[tP 0 1000000, tP 2 2], [bC 2 GOp.z, (1000000, .cells (GXr.k2 u41) (GXr.h4_9f u41))], []⟩ ?_
  apply Wc.seq
  apply Wc.seq
  obtain ⟨u07, h227, h⟩ := Z0 h
  refine Wc.r2 [{}, { r := some (.v (.bool u07.2) []), outs := [(0, .p (GXr.k2 u07.1) (GXr.h4_9f u07.1))] }] ⟨[tP 0 1000000, tP 2 2, tB 5 u07.2], [bC 2 GOp.z, (1000000, .cells (GXr.k2 u07.1) (GXr.h4_9f u07.1))], []⟩ (.cons (Z24 h227) .nil) ?_
  rcases oif h with ⟨h228, h⟩ | ⟨h228, h⟩
  · refine Wc.cT h228 ?_
    apply Wc.seq
    obtain ⟨u7g, h229, h⟩ := Z0 h
    refine Wc.r2 [{ r := some (.v (.tup [.agg (GOp.q u7g.1), .bool u7g.2]) []) }] ⟨[tP 2 2, tB 3 u7g.2], [bC 2 (GOp.q u7g.1), (1000000, .cells (GXr.k2 u07.1) (GXr.h4_9f u07.1))], []⟩ (.cons (Z9r h229) .nil) ?_
    cases h; exact Wc.ret dn
  · refine Wc.cF h228 ?_
    refine Wc.fx [] ⟨[tP 0 1000000, tP 2 2], [bC 2 GOp.z, (1000000, .cells (GXr.k2 u07.1) (GXr.h4_9f u07.1))], []⟩ ?_
    refine Wc.skip ?_
    apply Wc.seq
    refine Wc.seqJ (fun st => ∃ (ual : Bool) (zx : GXr), st = ⟨[tP 0 1000000, tP 2 2, tB 24 ual], [bC 2 GOp.z, (1000000, .cells (GXr.k2 zx) (GXr.h4_9f zx))], []⟩ ∧ Z3q k ual zx = some r) ?_ ?_
    · obtain ⟨zp, h233, h⟩ := Z0 h
      rcases oif h with ⟨h234, h⟩ | ⟨h234, h⟩
      · obtain ⟨u8f, h235, h⟩ := Z0 h
        refine Wc.draw hmix [{}, { r := some (.v (.bool zp.2) []), outs := [(0, .p (GXr.k2 zp.1) (GXr.h4_9f zp.1))] }, rT, {}, {}, {}, {}, {}, {}, {}, {}, { v := some (.vptr (GSign.q u8f)) }] [] [0, 2, 24] [2, 1000000] [] ⟨[tP 0 1000000, tP 2 2, tB 24 (!u8f.gNear)], [bC 2 GOp.z, (1000000, .cells (GXr.k2 zp.1) (GXr.h4_9f zp.1))], []⟩ _ (by kernel_rfl) (fun X => by kernel_rfl) (.cons (Z24 h233) (cb h234 (.cons (Z19 (c := GSign.c) (GSign.c_eq u8f) GSign.c_len h235) (.cons (Z18 1 [.bool u8f.gNear]) .nil)))) ?_
        exact ⟨_, _, rfl, h⟩
      · refine Wc.draw hmix [{}, { r := some (.v (.bool zp.2) []), outs := [(0, .p (GXr.k2 zp.1) (GXr.h4_9f zp.1))] }, rF] [] [0, 2, 24] [2, 1000000] [] ⟨[tP 0 1000000, tP 2 2, tB 24 false], [bC 2 GOp.z, (1000000, .cells (GXr.k2 zp.1) (GXr.h4_9f zp.1))], []⟩ _ (by kernel_rfl) (fun X => by kernel_rfl) (.cons (Z24 h233) (cb h234 .nil)) ?_
        exact ⟨_, _, rfl, h⟩
    · rintro st ⟨ual, zx, rfl, h⟩
      rcases oif h with ⟨h230, h⟩ | ⟨h230, h⟩
      · refine Wc.cT h230 ?_
        apply Wc.seq
        obtain ⟨u6k, h231, h⟩ := Z0 h
        obtain ⟨u7f, h232, h⟩ := Z0 h
        refine Wc.draw hmix [{}, {}, {}, {}, {}, {}, {}, {}, { v := some (.vptr (GSign.q u6k)) }, {}, {}, { r := some (.v (.tup [.agg (GOp.q u7f.1), .bool u7f.2]) []) }] [] [2, 3] [2, 1000000] [] ⟨[tP 2 2, tB 3 u7f.2], [bC 2 (GOp.q u7f.1), (1000000, .cells (GXr.k2 zx) (GXr.h4_9f zx))], []⟩ _ (by kernel_rfl) (fun X => by kernel_rfl) (.cons (Z19 (c := GSign.c) (GSign.c_eq u6k) GSign.c_len h231) (.cons (Z18 1 [.str u6k.gText, aI u6k.gNum, aI u6k.gAt, .bool u6k.gNear]) (.cons (Z9r h232) .nil))) ?_
        cases h; exact Wc.ret dn
      · refine Wc.cF h230 ?_
        refine Wc.fx [] ⟨[tP 2 2], [bC 2 GOp.z, (1000000, .cells (GXr.k2 zx) (GXr.h4_9f zx))], []⟩ ?_
        refine Wc.skip ?_
        apply Wc.seq
        refine Wc.r0 ⟨[tP 2 2, tB 3 false], [bC 2 GOp.z, (1000000, .cells (GXr.k2 zx) (GXr.h4_9f zx))], []⟩ ?_
        cases h; exact Wc.ret dn

def Z41 (k : Nat) (Zq : GXr → Int → Option (GXr × GTerm × Int)) (Zj : GXr → Int → Option (GXr × GTerm × Int)) (Zo : GXr → Option (GXr × GTerm)) (Zr : GXr → Option (GXr × GTerm)) (Zp : GXr → ByteArray → Option (GXr × GTerm)) (Zi : GXr → Int → Option (GXr × GTerm)) (u5 : GXr) (v3 : GSign) (uam : Bool) : Option (GXr × GTerm × Int) :=
  if uam = true then
    some (GXr.mk u5.gList u5.gAt true u5.gDeep u5.gNames, GTerm.mk 0 (bs []) 0 [], 0)
  else
    (Z5l k v3.gText).bind fun uan =>
    some (GXr.mk u5.gList (wr.i64 (u5.gAt + 1)) u5.gBad u5.gDeep u5.gNames, uan, 0)
def Z42 (k : Nat) (Zq : GXr → Int → Option (GXr × GTerm × Int)) (Zj : GXr → Int → Option (GXr × GTerm × Int)) (Zo : GXr → Option (GXr × GTerm)) (Zr : GXr → Option (GXr × GTerm)) (Zp : GXr → ByteArray → Option (GXr × GTerm)) (Zi : GXr → Int → Option (GXr × GTerm)) (u5 : GXr) (zy : GOp × Bool) (v3 : GSign) (uao : Bool) : Option (GXr × GTerm × Int) :=
  if uao = true then
    (Zi (GXr.mk u5.gList (wr.i64 (u5.gAt + 1)) u5.gBad u5.gDeep u5.gNames) zy.1.gRight).bind fun zb =>
    some (zb.1, GTerm.mk 4 v3.gText 0 [zb.2], zy.1.gPrio)
  else
    (Z1u k v3.gText).bind fun u8g =>
    if zy.2 = true then
      Z41 k Zq Zj Zo Zr Zp Zi u5 v3 true
    else
      Z41 k Zq Zj Zo Zr Zp Zi u5 v3 u8g.2
def Z43 (k : Nat) (Zq : GXr → Int → Option (GXr × GTerm × Int)) (Zj : GXr → Int → Option (GXr × GTerm × Int)) (Zo : GXr → Option (GXr × GTerm)) (Zr : GXr → Option (GXr × GTerm)) (Zp : GXr → ByteArray → Option (GXr × GTerm)) (Zi : GXr → Int → Option (GXr × GTerm)) (v3 : GSign) (u0t : Int) (uap : Bool) (u5 : GXr) : Option (GXr × GTerm × Int) :=
  if uap = true then
    (at' u5.gList (wr.i64 ((wr.i64 (u5.gAt + 2)) - 1))).bind fun u7h =>
    (Z9f k (wr.i64 (0 - u7h.gNum))).bind fun uaq =>
    some (GXr.mk u5.gList (wr.i64 (u5.gAt + 2)) u5.gBad u5.gDeep u5.gNames, uaq, 0)
  else
    (Z2y k v3.gText).bind fun zy =>
    if zy.2 = true then
      Z42 k Zq Zj Zo Zr Zp Zi u5 zy v3 (decide (zy.1.gPrio ≤ u0t))
    else
      Z42 k Zq Zj Zo Zr Zp Zi u5 zy v3 false
def Z20 (k : Nat) (Zq : GXr → Int → Option (GXr × GTerm × Int)) (Zj : GXr → Int → Option (GXr × GTerm × Int)) (Zo : GXr → Option (GXr × GTerm)) (Zr : GXr → Option (GXr × GTerm)) (Zp : GXr → ByteArray → Option (GXr × GTerm)) (Zi : GXr → Int → Option (GXr × GTerm)) (uar : Bool) (vt : GXr) : Option (GXr × GTerm) :=
  if uar = true then
    (at' vt.gList (wr.i64 ((wr.i64 (vt.gAt + 2)) - 2))).bind fun u6l =>
    (Z5l k u6l.gText).bind fun uas =>
    some (GXr.mk vt.gList (wr.i64 (vt.gAt + 2)) vt.gBad vt.gDeep vt.gNames, uas)
  else
    (Zi vt 1200).bind fun u2d =>
    (Z12 k u2d.1 (bs [41])).bind fun u2e =>
    some (u2e, u2d.2)
def Z1q (k : Nat) (Zq : GXr → Int → Option (GXr × GTerm × Int)) (Zj : GXr → Int → Option (GXr × GTerm × Int)) (Zo : GXr → Option (GXr × GTerm)) (Zr : GXr → Option (GXr × GTerm)) (Zp : GXr → ByteArray → Option (GXr × GTerm)) (Zi : GXr → Int → Option (GXr × GTerm)) (u1p : GTerm) : Nat → (List GTerm) → GXr → Option (Out (GXr × GTerm) ((List GTerm) × GTerm × GXr))
  | 0, _, _ => none
  | m + 1, u0n, zz =>
    if (!zz.gBad) = true then
      (Zi zz 999).bind fun vz =>
      if u0n.length + [vz.2].length ≤ 1073741824 then
        (Z14 k vz.1 (bs [93])).bind fun u08 =>
        if u08.2 = true then
          some (.done (u0n ++ [vz.2], u1p, u08.1))
        else
          (Z14 k u08.1 (bs [124])).bind fun u1g =>
          if u1g.2 = true then
            (Zi u1g.1 999).bind fun u2v =>
            (Z12 k u2v.1 (bs [93])).bind fun u4i =>
            some (.done (u0n ++ [vz.2], u2v.2, u4i))
          else
            (Z12 k u1g.1 (bs [44])).bind fun u4j =>
            Z1q k Zq Zj Zo Zr Zp Zi u1p m (u0n ++ [vz.2]) u4j
      else none
    else
      some (.done (u0n, u1p, zz))
def Z2x (k : Nat) (Zq : GXr → Int → Option (GXr × GTerm × Int)) (Zj : GXr → Int → Option (GXr × GTerm × Int)) (Zo : GXr → Option (GXr × GTerm)) (Zr : GXr → Option (GXr × GTerm)) (Zp : GXr → ByteArray → Option (GXr × GTerm)) (Zi : GXr → Int → Option (GXr × GTerm)) (u1w : List GTerm) : Nat → Int → GTerm → Option (Out (GXr × GTerm) GTerm)
  | 0, _, _ => none
  | m + 1, u4k, u65 =>
    if (decide (u4k ≥ 0)) = true then
      (at' u1w u4k).bind fun uat =>
      (Zao k (bs [46]) uat u65).bind fun uau =>
      Z2x k Zq Zj Zo Zr Zp Zi u1w m (wr.i64 (u4k - 1)) uau
    else
      some (.done u65)
def Z1e (k : Nat) (Zq : GXr → Int → Option (GXr × GTerm × Int)) (Zj : GXr → Int → Option (GXr × GTerm × Int)) (Zo : GXr → Option (GXr × GTerm)) (Zr : GXr → Option (GXr × GTerm)) (Zp : GXr → ByteArray → Option (GXr × GTerm)) (Zi : GXr → Int → Option (GXr × GTerm)) : Nat → GTerm → GXr → Option (Out (GXr × GTerm) (GTerm × GXr))
  | 0, _, _ => none
  | m + 1, v0, u00 =>
    if (!u00.gBad) = true then
      (Zi u00 999).bind fun ux =>
      if (decide ((v0.gKids.length : Int) ≥ 5)) = true then
        some (.done (v0, GXr.mk ux.1.gList ux.1.gAt true ux.1.gDeep ux.1.gNames))
      else
        if v0.gKids.length + [ux.2].length ≤ 1073741824 then
          (Z14 k ux.1 (bs [41])).bind fun u09 =>
          if u09.2 = true then
            some (.done (GTerm.mk v0.gKind v0.gName v0.gNum (v0.gKids ++ [ux.2]), u09.1))
          else
            (Z12 k u09.1 (bs [44])).bind fun u4l =>
            Z1e k Zq Zj Zo Zr Zp Zi m (GTerm.mk v0.gKind v0.gName v0.gNum (v0.gKids ++ [ux.2])) u4l
        else none
    else
      some (.done (v0, u00))
def Z1m (k : Nat) (Zq : GXr → Int → Option (GXr × GTerm × Int)) (Zj : GXr → Int → Option (GXr × GTerm × Int)) (Zo : GXr → Option (GXr × GTerm)) (Zr : GXr → Option (GXr × GTerm)) (Zp : GXr → ByteArray → Option (GXr × GTerm)) (Zi : GXr → Int → Option (GXr × GTerm)) (vp : Int) : Nat → Int → GTerm → GXr → Option (Out (GXr × GTerm) (GTerm × GXr))
  | 0, _, _, _ => none
  | m + 1, u66, u10, u01 =>
    if (!u01.gBad) = true then
      (Z4x k u01).bind fun uf =>
      if (!uf.2.2) = true then
        some (.done (u10, uf.1))
      else
        if (decide (uf.2.1.gPrio > vp)) = true then
          some (.done (u10, uf.1))
        else
          if (decide (uf.2.1.gLeft < u66)) = true then
            some (.done (u10, uf.1))
          else
            (Zi (GXr.mk uf.1.gList (wr.i64 (uf.1.gAt + 1)) uf.1.gBad uf.1.gDeep uf.1.gNames) uf.2.1.gRight).bind fun u0f =>
            (Zao k uf.2.1.gName u10 u0f.2).bind fun uav =>
            Z1m k Zq Zj Zo Zr Zp Zi vp m uf.2.1.gPrio uav u0f.1
    else
      some (.done (u10, u01))
def Z40 (k : Nat) (Zq : GXr → Int → Option (GXr × GTerm × Int)) (Zj : GXr → Int → Option (GXr × GTerm × Int)) (Zo : GXr → Option (GXr × GTerm)) (Zr : GXr → Option (GXr × GTerm)) (Zp : GXr → ByteArray → Option (GXr × GTerm)) (Zi : GXr → Int → Option (GXr × GTerm)) (ul : GXr) (vp : Int) (uaw : Bool) : Option (GXr × GTerm) :=
  if uaw = true then
    some (GXr.mk ul.gList ul.gAt true (wr.i64 (ul.gDeep + 1)) ul.gNames, GTerm.mk 0 (bs []) 0 [])
  else
    (Zj (GXr.mk ul.gList ul.gAt ul.gBad (wr.i64 (ul.gDeep + 1)) ul.gNames) vp).bind fun u21 =>
    (Z1m k Zq Zj Zo Zr Zp Zi vp k u21.2.2 u21.2.1 u21.1).bind fun out2 => match out2 with
    | .ret r => some r
    | .done (u7i, u0u) =>
      some (GXr.mk u0u.gList u0u.gAt u0u.gBad (wr.i64 (u0u.gDeep - 1)) u0u.gNames, u7i)
mutual
def Zc : Nat → GXr → Int → Option (GXr × GTerm × Int)
  | 0, _, _ => none
  | k + 1, uv, u0t =>
    (at' uv.gList uv.gAt).bind fun v3 =>
    if v3.gNear = true then
      (Zd k (GXr.mk uv.gList (wr.i64 (uv.gAt + 2)) uv.gBad uv.gDeep uv.gNames) v3.gText).bind fun u1h =>
      some (u1h.1, u1h.2, 0)
    else
      if (sEq v3.gText (bs [45])) = true then
        (Z5a k uv).bind fun u3e =>
        Z43 k (Zc k) (Z2 k) (Zb k) (Ze k) (Zd k) (Z8 k) v3 u0t u3e.2 u3e.1
      else
        Z43 k (Zc k) (Z2 k) (Zb k) (Ze k) (Zd k) (Z8 k) v3 u0t false uv
def Z2 : Nat → GXr → Int → Option (GXr × GTerm × Int)
  | 0, _, _ => none
  | k + 1, u11, u57 =>
    (Z1i k u11 1 (bs [])).bind fun u2w =>
    if u2w.2 = true then
      (Zc k u2w.1 u57).bind fun u22 =>
      some (u22.1, u22.2.1, u22.2.2)
    else
      (Z14 k u2w.1 (bs [40])).bind fun u2x =>
      if u2x.2 = true then
        (Zb k u2x.1).bind fun u3f =>
        some (u3f.1, u3f.2, 0)
      else
        (Z14 k u2x.1 (bs [91])).bind fun u2y =>
        if u2y.2 = true then
          (Ze k u2y.1).bind fun u3g =>
          some (u3g.1, u3g.2, 0)
        else
          (Z1i k u2y.1 3 (bs [])).bind fun vq =>
          if vq.2 = true then
            (at' vq.1.gList (wr.i64 ((wr.i64 (vq.1.gAt + 1)) - 1))).bind fun u7j =>
            (Z9f k u7j.gNum).bind fun uax =>
            some (GXr.mk vq.1.gList (wr.i64 (vq.1.gAt + 1)) vq.1.gBad vq.1.gDeep vq.1.gNames, uax, 0)
          else
            (Z1i k vq.1 2 (bs [])).bind fun v4 =>
            if v4.2 = true then
              (at' v4.1.gList (wr.i64 ((wr.i64 (v4.1.gAt + 1)) - 1))).bind fun u6m =>
              (Z2w k (GXr.mk v4.1.gList (wr.i64 (v4.1.gAt + 1)) v4.1.gBad v4.1.gDeep v4.1.gNames) u6m.gText).bind fun u1i =>
              some (u1i.1, u1i.2, 0)
            else
              some (GXr.mk v4.1.gList v4.1.gAt true v4.1.gDeep v4.1.gNames, GTerm.mk 0 (bs []) 0 [], 0)
def Zb : Nat → GXr → Option (GXr × GTerm)
  | 0, _ => none
  | k + 1, u12 =>
    (Z1i k u12 1 (bs [])).bind fun uq =>
    if uq.2 = true then
      if (decide ((wr.i64 (uq.1.gAt + 1)) < (uq.1.gList.length : Int))) = true then
        (at' uq.1.gList (wr.i64 (uq.1.gAt + 1))).bind fun u6n =>
        if (u6n.gKind == 4) = true then
          (at' uq.1.gList (wr.i64 (uq.1.gAt + 1))).bind fun u67 =>
          Z20 k (Zc k) (Z2 k) (Zb k) (Ze k) (Zd k) (Z8 k) (sEq u67.gText (bs [41])) uq.1
        else
          Z20 k (Zc k) (Z2 k) (Zb k) (Ze k) (Zd k) (Z8 k) false uq.1
      else
        Z20 k (Zc k) (Z2 k) (Zb k) (Ze k) (Zd k) (Z8 k) false uq.1
    else
      Z20 k (Zc k) (Z2 k) (Zb k) (Ze k) (Zd k) (Z8 k) false uq.1
def Ze : Nat → GXr → Option (GXr × GTerm)
  | 0, _ => none
  | k + 1, u13 =>
    (Z14 k u13 (bs [93])).bind fun vg =>
    if vg.2 = true then
      (Z5l k (bs [91, 93])).bind fun uay =>
      some (vg.1, uay)
    else
      (Z5l k (bs [91, 93])).bind fun u1p =>
      (Z1q k (Zc k) (Z2 k) (Zb k) (Ze k) (Zd k) (Z8 k) u1p k [] vg.1).bind fun out1 => match out1 with
      | .ret r => some r
      | .done (u1w, u8h, uy) =>
        (Z2x k (Zc k) (Z2 k) (Zb k) (Ze k) (Zd k) (Z8 k) u1w k (wr.i64 ((u1w.length : Int) - 1)) u8h).bind fun out2 => match out2 with
        | .ret r => some r
        | .done u8i =>
          some (uy, u8i)
def Zd : Nat → GXr → ByteArray → Option (GXr × GTerm)
  | 0, _, _ => none
  | k + 1, u02, u58 =>
    (Z1e k (Zc k) (Z2 k) (Zb k) (Ze k) (Zd k) (Z8 k) k (GTerm.mk 4 u58 0 []) u02).bind fun out1 => match out1 with
    | .ret r => some r
    | .done (u8j, u3s) =>
      some (u3s, u8j)
def Z8 : Nat → GXr → Int → Option (GXr × GTerm)
  | 0, _, _ => none
  | k + 1, ul, vp =>
    if ul.gBad = true then
      Z40 k (Zc k) (Z2 k) (Zb k) (Ze k) (Zd k) (Z8 k) ul vp true
    else
      Z40 k (Zc k) (Z2 k) (Zb k) (Ze k) (Zd k) (Z8 k) ul vp (decide ((wr.i64 (ul.gDeep + 1)) > 130))
end
set_option maxHeartbeats 4000000 in
theorem Zca : ∀ k : Nat, (∀ {uv : GXr} {u0t : Int} {r : GXr × GTerm × Int}, Zc k uv u0t = some r → FnO Tryz.prog 96 [.p (GXr.k2 uv) (GXr.h4_9f uv), .v (aI u0t) []] (.v (.tup [.agg (GTerm.q r.2.1), aI r.2.2]) []) [(0, .p (GXr.k2 r.1) (GXr.h4_9f r.1))]) ∧
    (∀ {u11 : GXr} {u57 : Int} {r : GXr × GTerm × Int}, Z2 k u11 u57 = some r → FnO Tryz.prog 70 [.p (GXr.k2 u11) (GXr.h4_9f u11), .v (aI u57) []] (.v (.tup [.agg (GTerm.q r.2.1), aI r.2.2]) []) [(0, .p (GXr.k2 r.1) (GXr.h4_9f r.1))]) ∧
    (∀ {u12 : GXr} {r : GXr × GTerm}, Zb k u12 = some r → FnO Tryz.prog 98 [.p (GXr.k2 u12) (GXr.h4_9f u12)] (.v (.agg (GTerm.q r.2)) []) [(0, .p (GXr.k2 r.1) (GXr.h4_9f r.1))]) ∧
    (∀ {u13 : GXr} {r : GXr × GTerm}, Ze k u13 = some r → FnO Tryz.prog 99 [.p (GXr.k2 u13) (GXr.h4_9f u13)] (.v (.agg (GTerm.q r.2)) []) [(0, .p (GXr.k2 r.1) (GXr.h4_9f r.1))]) ∧
    (∀ {u02 : GXr} {u58 : ByteArray} {r : GXr × GTerm}, Zd k u02 u58 = some r → FnO Tryz.prog 117 [.p (GXr.k2 u02) (GXr.h4_9f u02), .v (.str u58) []] (.v (.agg (GTerm.q r.2)) [(3, .app 29)]) [(0, .p (GXr.k2 r.1) (GXr.h4_9f r.1))]) ∧
    (∀ {ul : GXr} {vp : Int} {r : GXr × GTerm}, Z8 k ul vp = some r → FnO Tryz.prog 40 [.p (GXr.k2 ul) (GXr.h4_9f ul), .v (aI vp) []] (.v (.agg (GTerm.q r.2)) []) [(0, .p (GXr.k2 r.1) (GXr.h4_9f r.1))]) := by
  intro k
  induction k with
  | zero =>
    refine ⟨?_, ?_, ?_, ?_, ?_, ?_⟩
    · intro uv u0t r h
      exact (Z1r (by rw [Zc] at h; exact h)).elim
    · intro u11 u57 r h
      exact (Z1r (by rw [Z2] at h; exact h)).elim
    · intro u12 r h
      exact (Z1r (by rw [Zb] at h; exact h)).elim
    · intro u13 r h
      exact (Z1r (by rw [Ze] at h; exact h)).elim
    · intro u02 u58 r h
      exact (Z1r (by rw [Zd] at h; exact h)).elim
    · intro ul vp r h
      exact (Z1r (by rw [Z8] at h; exact h)).elim
  | succ k ih =>
    obtain ⟨Zcy, Zax, Zc2, Zdn, Zcx, Z3a⟩ := ih
    refine ⟨?_, ?_, ?_, ?_, ?_, ?_⟩
    · intro uv u0t r h
      rw [Zc] at h
      refine FnO.o2 Tryz.func96 (rfl : Tryz.f96.body = some _) ?_
      intro w0 X0 Fin pv0 pb gt
      apply Wc.seq
      refine Wc.r0 ⟨[tP 0 1000000, tI 1 u0t, tP 4 4], [bX0 4, (1000000, .cells (GXr.k2 uv) (GXr.h4_9f uv))], []⟩ ?_
      apply Wc.seq
      obtain ⟨v3, h318, h⟩ := Z0 h
      refine Wc.draw hmix [{}, {}, {}, {}, {}, {}, {}, {}, { v := some (.vptr (GSign.q v3)) }] [] [0, 1, 4, 6] [4, 6, 1000000] [] ⟨[tP 0 1000000, tI 1 u0t, tP 4 4, tP 6 6], [bX0 4, bC 6 (GSign.q v3), (1000000, .cells (GXr.k2 uv) (GXr.h4_9f uv))], []⟩ _ (by kernel_rfl) (fun X => by kernel_rfl) (.cons (Z19 (c := GSign.c) (GSign.c_eq v3) GSign.c_len h318) (.cons (Z18 5 (GSign.q v3)) .nil)) ?_
      apply Wc.seq
      apply Wc.seq
      refine Wc.r0 ⟨[tP 0 1000000, tI 1 u0t, tP 4 4, tP 6 6, tB 23 v3.gNear], [bX0 4, bC 6 (GSign.q v3), (1000000, .cells (GXr.k2 uv) (GXr.h4_9f uv))], []⟩ ?_
      rcases oif h with ⟨h319, h⟩ | ⟨h319, h⟩
      · refine Wc.cT h319 ?_
        apply Wc.seq
        refine Wc.r0 ⟨[tP 0 1000000, tP 4 4, tP 6 6], [bX0 4, bC 6 (GSign.q v3), (1000000, .cells [.sl (List.map GSign.c uv.gList), aI (wr.i64 (uv.gAt + 2)), .bool uv.gBad, aI uv.gDeep, .slx] (GXr.h4_9f uv))], []⟩ ?_
        apply Wc.seq
        obtain ⟨u1h, h320, h⟩ := Z0 h
        refine Wc.r2 [{}, {}, {}, { r := some (.v (.agg (GTerm.q u1h.2)) [(3, .app 29)]), outs := [(0, .p (GXr.k2 u1h.1) (GXr.h4_9f u1h.1))] }, { tk := [35] }] ⟨[tP 4 4, tI 5 0], [(4, .cells (GTerm.q u1h.2) [(3, .app 29)]), (1000000, .cells (GXr.k2 u1h.1) (GXr.h4_9f u1h.1))], []⟩ (.cons (Zcx h320) .nil) ?_
        refine Wc.fx [.un (.b 4 3)] ⟨[tP 4 4, tI 5 0], [bC 4 (GTerm.q u1h.2), (1000000, .cells (GXr.k2 u1h.1) (GXr.h4_9f u1h.1))], []⟩ ?_
        cases h; exact Wc.ret dn
      · refine Wc.cF h319 ?_
        refine Wc.fx [] ⟨[tP 0 1000000, tI 1 u0t, tP 4 4, tP 6 6], [bX0 4, bC 6 (GSign.q v3), (1000000, .cells (GXr.k2 uv) (GXr.h4_9f uv))], []⟩ ?_
        refine Wc.skip ?_
        apply Wc.seq
        refine Wc.seqJ (fun st => ∃ (uap : Bool) (u5 : GXr), st = ⟨[tP 0 1000000, tI 1 u0t, tP 4 4, tP 6 6, tB 42 uap], [bX0 4, bC 6 (GSign.q v3), (1000000, .cells (GXr.k2 u5) (GXr.h4_9f u5))], []⟩ ∧ Z43 k (Zc k) (Z2 k) (Zb k) (Ze k) (Zd k) (Z8 k) v3 u0t uap u5 = some r) ?_ ?_
        · rcases oif h with ⟨h332, h⟩ | ⟨h332, h⟩
          · obtain ⟨u3e, h333, h⟩ := Z0 h
            refine Wc.r2 [{}, {}, {}, rT, {}, { r := some (.v (.bool u3e.2) []), outs := [(0, .p (GXr.k2 u3e.1) (GXr.h4_9f u3e.1))] }] ⟨[tP 0 1000000, tI 1 u0t, tP 4 4, tP 6 6, tB 42 u3e.2], [bX0 4, bC 6 (GSign.q v3), (1000000, .cells (GXr.k2 u3e.1) (GXr.h4_9f u3e.1))], []⟩ (cb h332 (.cons (Zgj h333) .nil)) ?_
            exact ⟨_, _, rfl, h⟩
          · refine Wc.r2 [{}, {}, {}, rF] ⟨[tP 0 1000000, tI 1 u0t, tP 4 4, tP 6 6, tB 42 false], [bX0 4, bC 6 (GSign.q v3), (1000000, .cells (GXr.k2 uv) (GXr.h4_9f uv))], []⟩ (cb h332 .nil) ?_
            exact ⟨_, _, rfl, h⟩
        · rintro st ⟨uap, u5, rfl, h⟩
          rcases oif h with ⟨h321, h⟩ | ⟨h321, h⟩
          · refine Wc.cT h321 ?_
            apply Wc.seq
            refine Wc.r0 ⟨[tP 0 1000000, tP 4 4], [bX0 4, (1000000, .cells [.sl (List.map GSign.c u5.gList), aI (wr.i64 (u5.gAt + 2)), .bool u5.gBad, aI u5.gDeep, .slx] (GXr.h4_9f u5))], []⟩ ?_
            apply Wc.seq
            obtain ⟨u7h, h322, h⟩ := Z0 h
            obtain ⟨uaq, h323, h⟩ := Z0 h
            refine Wc.draw hmix [{}, {}, {}, {}, {}, {}, {}, {}, {}, { v := some (.vptr (GSign.q u7h)) }, {}, {}, {}, { r := some (.v (.agg (GTerm.q uaq)) [(3, .app 29)]) }, { tk := [64] }] [] [4, 5] [4, 1000000] [] ⟨[tP 4 4, tI 5 0], [(4, .cells (GTerm.q uaq) [(3, .app 29)]), (1000000, .cells [.sl (List.map GSign.c u5.gList), aI (wr.i64 (u5.gAt + 2)), .bool u5.gBad, aI u5.gDeep, .slx] (GXr.h4_9f u5))], []⟩ _ (by kernel_rfl) (fun X => by kernel_rfl) (.cons (Z19 (c := GSign.c) (GSign.c_eq u7h) GSign.c_len h322) (.cons (Z18 1 [aI u7h.gNum, aI u7h.gAt, .bool u7h.gNear]) (.cons (Zl1 h323) .nil))) ?_
            refine Wc.fx [.un (.b 4 3)] ⟨[tP 4 4, tI 5 0], [bC 4 (GTerm.q uaq), (1000000, .cells [.sl (List.map GSign.c u5.gList), aI (wr.i64 (u5.gAt + 2)), .bool u5.gBad, aI u5.gDeep, .slx] (GXr.h4_9f u5))], []⟩ ?_
            cases h; exact Wc.ret dn
          · refine Wc.cF h321 ?_
            refine Wc.fx [] ⟨[tP 0 1000000, tI 1 u0t, tP 4 4, tP 6 6], [bX0 4, bC 6 (GSign.q v3), (1000000, .cells (GXr.k2 u5) (GXr.h4_9f u5))], []⟩ ?_
            refine Wc.skip ?_
            apply Wc.seq
            obtain ⟨zy, h324, h⟩ := Z0 h
            refine Wc.r2 [{}, {}, { r := some (.v (.tup [.agg (GOp.q zy.1), .bool zy.2]) []) }] ⟨[tP 0 1000000, tI 1 u0t, tP 4 4, tP 6 6, tP 7 7, tB 8 zy.2], [bX0 4, bC 6 (GSign.q v3), bC 7 (GOp.q zy.1), (1000000, .cells (GXr.k2 u5) (GXr.h4_9f u5))], []⟩ (.cons (Zgm h324) .nil) ?_
            apply Wc.seq
            refine Wc.seqJ (fun st => ∃ (uao : Bool), st = ⟨[tP 0 1000000, tP 4 4, tP 6 6, tP 7 7, tB 8 zy.2, tB 77 uao], [bX0 4, bC 6 (GSign.q v3), bC 7 (GOp.q zy.1), (1000000, .cells (GXr.k2 u5) (GXr.h4_9f u5))], []⟩ ∧ Z42 k (Zc k) (Z2 k) (Zb k) (Ze k) (Zd k) (Z8 k) u5 zy v3 uao = some r) ?_ ?_
            · rcases oif h with ⟨h331, h⟩ | ⟨h331, h⟩
              · refine Wc.r2 [{}, rT] ⟨[tP 0 1000000, tP 4 4, tP 6 6, tP 7 7, tB 8 zy.2, tB 77 (decide (zy.1.gPrio ≤ u0t))], [bX0 4, bC 6 (GSign.q v3), bC 7 (GOp.q zy.1), (1000000, .cells (GXr.k2 u5) (GXr.h4_9f u5))], []⟩ (cb h331 .nil) ?_
                exact ⟨_, rfl, h⟩
              · refine Wc.r2 [{}, rF] ⟨[tP 0 1000000, tP 4 4, tP 6 6, tP 7 7, tB 8 zy.2, tB 77 false], [bX0 4, bC 6 (GSign.q v3), bC 7 (GOp.q zy.1), (1000000, .cells (GXr.k2 u5) (GXr.h4_9f u5))], []⟩ (cb h331 .nil) ?_
                exact ⟨_, rfl, h⟩
            · rintro st ⟨uao, rfl, h⟩
              rcases oif h with ⟨h325, h⟩ | ⟨h325, h⟩
              · refine Wc.cT h325 ?_
                apply Wc.seq
                refine Wc.r0 ⟨[tP 0 1000000, tP 4 4, tP 6 6, tP 7 7], [bX0 4, bC 6 (GSign.q v3), bC 7 (GOp.q zy.1), (1000000, .cells [.sl (List.map GSign.c u5.gList), aI (wr.i64 (u5.gAt + 1)), .bool u5.gBad, aI u5.gDeep, .slx] (GXr.h4_9f u5))], []⟩ ?_
                apply Wc.seq
                obtain ⟨zb, h326, h⟩ := Z0 h
                refine Wc.r2 [{}, {}, {}, { r := some (.v (.agg (GTerm.q zb.2)) []), outs := [(0, .p (GXr.k2 zb.1) (GXr.h4_9f zb.1))] }] ⟨[tP 4 4, tP 6 6, tP 7 7, tP 9 9], [bX0 4, bC 6 (GSign.q v3), bC 7 (GOp.q zy.1), bC 9 (GTerm.q zb.2), (1000000, .cells (GXr.k2 zb.1) (GXr.h4_9f zb.1))], []⟩ (.cons (Z3a h326) .nil) ?_
                apply Wc.seq
                refine Wc.draw hmix [{}, {}, {}, { c := some (List.map GTerm.c [zb.2]) }, { tk := [93] }, {}, {}, { tk := [94] }] [] [4, 5] [4, 1000000] [] ⟨[tP 4 4, tI 5 zy.1.gPrio], [(4, .cells [aI 4, .str v3.gText, aI 0, .sl (List.map GTerm.c [zb.2])] [(3, .app 29)]), (1000000, .cells (GXr.k2 zb.1) (GXr.h4_9f zb.1))], []⟩ _ (by kernel_rfl) (fun X => by kernel_rfl) (.cons (Z3r (c := GTerm.c) (x := zb.2) (GTerm.c_eq zb.2) (Z4g GTerm.c)) .nil) ?_
                refine Wc.fx [.un (.b 4 3)] ⟨[tP 4 4, tI 5 zy.1.gPrio], [bC 4 [aI 4, .str v3.gText, aI 0, .sl (List.map GTerm.c [zb.2])], (1000000, .cells (GXr.k2 zb.1) (GXr.h4_9f zb.1))], []⟩ ?_
                cases h; exact Wc.ret dn
              · refine Wc.cF h325 ?_
                refine Wc.fx [] ⟨[tP 0 1000000, tP 4 4, tP 6 6, tB 8 zy.2], [bX0 4, bC 6 (GSign.q v3), (1000000, .cells (GXr.k2 u5) (GXr.h4_9f u5))], []⟩ ?_
                refine Wc.skip ?_
                apply Wc.seq
                obtain ⟨u8g, h327, h⟩ := Z0 h
                refine Wc.r2 [{}, {}, { r := some (.v (.tup [.agg (GOp.q u8g.1), .bool u8g.2]) []) }] ⟨[tP 0 1000000, tP 4 4, tP 6 6, tB 8 zy.2, tB 11 u8g.2], [bX0 4, bC 6 (GSign.q v3), (1000000, .cells (GXr.k2 u5) (GXr.h4_9f u5))], []⟩ (.cons (Z9r h327) .nil) ?_
                apply Wc.seq
                refine Wc.seqJ (fun st => ∃ (uam : Bool), st = ⟨[tP 0 1000000, tP 4 4, tP 6 6, tB 106 uam], [bX0 4, bC 6 (GSign.q v3), (1000000, .cells (GXr.k2 u5) (GXr.h4_9f u5))], []⟩ ∧ Z41 k (Zc k) (Z2 k) (Zb k) (Ze k) (Zd k) (Z8 k) u5 v3 uam = some r) ?_ ?_
                · rcases oif h with ⟨h330, h⟩ | ⟨h330, h⟩
                  · refine Wc.r2 [{}, rT] ⟨[tP 0 1000000, tP 4 4, tP 6 6, tB 106 true], [bX0 4, bC 6 (GSign.q v3), (1000000, .cells (GXr.k2 u5) (GXr.h4_9f u5))], []⟩ (cb h330 .nil) ?_
                    exact ⟨_, rfl, h⟩
                  · refine Wc.r2 [{}, rF] ⟨[tP 0 1000000, tP 4 4, tP 6 6, tB 106 u8g.2], [bX0 4, bC 6 (GSign.q v3), (1000000, .cells (GXr.k2 u5) (GXr.h4_9f u5))], []⟩ (cb h330 .nil) ?_
                    exact ⟨_, rfl, h⟩
                · rintro st ⟨uam, rfl, h⟩
                  rcases oif h with ⟨h328, h⟩ | ⟨h328, h⟩
                  · refine Wc.cT h328 ?_
                    apply Wc.seq
                    refine Wc.r0 ⟨[tP 4 4], [bX0 4, (1000000, .cells [.sl (List.map GSign.c u5.gList), aI u5.gAt, .bool true, aI u5.gDeep, .slx] (GXr.h4_9f u5))], []⟩ ?_
                    apply Wc.seq
                    refine Wc.r1 [{}, { tk := [110] }] ⟨[tP 4 4, tI 5 0], [bX0 4, (1000000, .cells [.sl (List.map GSign.c u5.gList), aI u5.gAt, .bool true, aI u5.gDeep, .slx] (GXr.h4_9f u5))], []⟩ ?_
                    refine Wc.fx [.un (.b 4 3)] ⟨[tP 4 4, tI 5 0], [bC 4 GTerm.z, (1000000, .cells [.sl (List.map GSign.c u5.gList), aI u5.gAt, .bool true, aI u5.gDeep, .slx] (GXr.h4_9f u5))], []⟩ ?_
                    cases h; exact Wc.ret dn
                  · refine Wc.cF h328 ?_
                    refine Wc.fx [] ⟨[tP 0 1000000, tP 4 4, tP 6 6], [bX0 4, bC 6 (GSign.q v3), (1000000, .cells (GXr.k2 u5) (GXr.h4_9f u5))], []⟩ ?_
                    refine Wc.skip ?_
                    apply Wc.seq
                    refine Wc.r0 ⟨[tP 4 4, tP 6 6], [bX0 4, bC 6 (GSign.q v3), (1000000, .cells [.sl (List.map GSign.c u5.gList), aI (wr.i64 (u5.gAt + 1)), .bool u5.gBad, aI u5.gDeep, .slx] (GXr.h4_9f u5))], []⟩ ?_
                    apply Wc.seq
                    obtain ⟨uan, h329, h⟩ := Z0 h
                    refine Wc.r2 [{}, {}, { r := some (.v (.agg (GTerm.q uan)) [(3, .app 29)]) }, { tk := [121] }] ⟨[tP 4 4, tI 5 0], [(4, .cells (GTerm.q uan) [(3, .app 29)]), (1000000, .cells [.sl (List.map GSign.c u5.gList), aI (wr.i64 (u5.gAt + 1)), .bool u5.gBad, aI u5.gDeep, .slx] (GXr.h4_9f u5))], []⟩ (.cons (Zbi h329) .nil) ?_
                    refine Wc.fx [.un (.b 4 3)] ⟨[tP 4 4, tI 5 0], [bC 4 (GTerm.q uan), (1000000, .cells [.sl (List.map GSign.c u5.gList), aI (wr.i64 (u5.gAt + 1)), .bool u5.gBad, aI u5.gDeep, .slx] (GXr.h4_9f u5))], []⟩ ?_
                    cases h; exact Wc.ret dn
    · intro u11 u57 r h
      rw [Z2] at h
      refine FnO.o2 Tryz.func70 (rfl : Tryz.f70.body = some _) ?_
      intro w0 X0 Fin pv0 pb gt
      apply Wc.seq
      refine Wc.r0 ⟨[tP 0 1000000, tI 1 u57, tP 4 4], [bX0 4, (1000000, .cells (GXr.k2 u11) (GXr.h4_9f u11))], []⟩ ?_
      apply Wc.seq
      refine Wc.block ?_
      apply Wc.seq
      obtain ⟨u2w, h334, h⟩ := Z0 h
      refine Wc.r2 [{}, { r := some (.v (.bool u2w.2) []), outs := [(0, .p (GXr.k2 u2w.1) (GXr.h4_9f u2w.1))] }] ⟨[tP 0 1000000, tI 1 u57, tP 4 4, tB 6 u2w.2], [bX0 4, (1000000, .cells (GXr.k2 u2w.1) (GXr.h4_9f u2w.1))], []⟩ (.cons (Z24 h334) .nil) ?_
      rcases oif h with ⟨h335, h⟩ | ⟨h335, h⟩
      · refine Wc.cT h335 ?_
        apply Wc.seq
        obtain ⟨u22, h336, h⟩ := Z0 h
        refine Wc.r2 [{}, {}, { r := some (.v (.tup [.agg (GTerm.q u22.2.1), aI u22.2.2]) []), outs := [(0, .p (GXr.k2 u22.1) (GXr.h4_9f u22.1))] }] ⟨[tP 4 4, tI 5 u22.2.2], [bC 4 (GTerm.q u22.2.1), (1000000, .cells (GXr.k2 u22.1) (GXr.h4_9f u22.1))], []⟩ (.cons (Zcy h336) .nil) ?_
        cases h; exact Wc.ret dn
      · refine Wc.cF h335 ?_
        apply Wc.seq
        obtain ⟨u2x, h337, h⟩ := Z0 h
        refine Wc.r2 [{}, { r := some (.v (.bool u2x.2) []), outs := [(0, .p (GXr.k2 u2x.1) (GXr.h4_9f u2x.1))] }] ⟨[tP 0 1000000, tP 4 4, tB 14 u2x.2], [bX0 4, (1000000, .cells (GXr.k2 u2x.1) (GXr.h4_9f u2x.1))], []⟩ (.cons (Z3s h337) .nil) ?_
        rcases oif h with ⟨h338, h⟩ | ⟨h338, h⟩
        · refine Wc.cT h338 ?_
          apply Wc.seq
          obtain ⟨u3f, h339, h⟩ := Z0 h
          refine Wc.r2 [{}, { r := some (.v (.agg (GTerm.q u3f.2)) []), outs := [(0, .p (GXr.k2 u3f.1) (GXr.h4_9f u3f.1))] }] ⟨[tP 4 4, tI 5 0], [bC 4 (GTerm.q u3f.2), (1000000, .cells (GXr.k2 u3f.1) (GXr.h4_9f u3f.1))], []⟩ (.cons (Zc2 h339) .nil) ?_
          cases h; exact Wc.ret dn
        · refine Wc.cF h338 ?_
          apply Wc.seq
          obtain ⟨u2y, h340, h⟩ := Z0 h
          refine Wc.r2 [{}, { r := some (.v (.bool u2y.2) []), outs := [(0, .p (GXr.k2 u2y.1) (GXr.h4_9f u2y.1))] }] ⟨[tP 0 1000000, tP 4 4, tB 19 u2y.2], [bX0 4, (1000000, .cells (GXr.k2 u2y.1) (GXr.h4_9f u2y.1))], []⟩ (.cons (Z3s h340) .nil) ?_
          rcases oif h with ⟨h341, h⟩ | ⟨h341, h⟩
          · refine Wc.cT h341 ?_
            apply Wc.seq
            obtain ⟨u3g, h342, h⟩ := Z0 h
            refine Wc.r2 [{}, { r := some (.v (.agg (GTerm.q u3g.2)) []), outs := [(0, .p (GXr.k2 u3g.1) (GXr.h4_9f u3g.1))] }] ⟨[tP 4 4, tI 5 0], [bC 4 (GTerm.q u3g.2), (1000000, .cells (GXr.k2 u3g.1) (GXr.h4_9f u3g.1))], []⟩ (.cons (Zdn h342) .nil) ?_
            cases h; exact Wc.ret dn
          · refine Wc.cF h341 ?_
            apply Wc.seq
            obtain ⟨vq, h343, h⟩ := Z0 h
            refine Wc.r2 [{}, { r := some (.v (.bool vq.2) []), outs := [(0, .p (GXr.k2 vq.1) (GXr.h4_9f vq.1))] }] ⟨[tP 0 1000000, tP 4 4, tB 24 vq.2], [bX0 4, (1000000, .cells (GXr.k2 vq.1) (GXr.h4_9f vq.1))], []⟩ (.cons (Z24 h343) .nil) ?_
            rcases oif h with ⟨h344, h⟩ | ⟨h344, h⟩
            · refine Wc.cT h344 ?_
              apply Wc.seq
              refine Wc.r0 ⟨[tP 0 1000000, tP 4 4], [bX0 4, (1000000, .cells [.sl (List.map GSign.c vq.1.gList), aI (wr.i64 (vq.1.gAt + 1)), .bool vq.1.gBad, aI vq.1.gDeep, .slx] (GXr.h4_9f vq.1))], []⟩ ?_
              apply Wc.seq
              obtain ⟨u7j, h345, h⟩ := Z0 h
              obtain ⟨uax, h346, h⟩ := Z0 h
              refine Wc.draw hmix [{}, {}, {}, {}, {}, {}, {}, {}, {}, { v := some (.vptr (GSign.q u7j)) }, {}, {}, { r := some (.v (.agg (GTerm.q uax)) [(3, .app 29)]) }, { tk := [47] }] [] [4, 5] [4, 1000000] [] ⟨[tP 4 4, tI 5 0], [(4, .cells (GTerm.q uax) [(3, .app 29)]), (1000000, .cells [.sl (List.map GSign.c vq.1.gList), aI (wr.i64 (vq.1.gAt + 1)), .bool vq.1.gBad, aI vq.1.gDeep, .slx] (GXr.h4_9f vq.1))], []⟩ _ (by kernel_rfl) (fun X => by kernel_rfl) (.cons (Z19 (c := GSign.c) (GSign.c_eq u7j) GSign.c_len h345) (.cons (Z18 1 [aI u7j.gNum, aI u7j.gAt, .bool u7j.gNear]) (.cons (Zl1 h346) .nil))) ?_
              refine Wc.fx [.un (.b 4 3)] ⟨[tP 4 4, tI 5 0], [bC 4 (GTerm.q uax), (1000000, .cells [.sl (List.map GSign.c vq.1.gList), aI (wr.i64 (vq.1.gAt + 1)), .bool vq.1.gBad, aI vq.1.gDeep, .slx] (GXr.h4_9f vq.1))], []⟩ ?_
              cases h; exact Wc.ret dn
            · refine Wc.cF h344 ?_
              apply Wc.seq
              obtain ⟨v4, h347, h⟩ := Z0 h
              refine Wc.r2 [{}, { r := some (.v (.bool v4.2) []), outs := [(0, .p (GXr.k2 v4.1) (GXr.h4_9f v4.1))] }] ⟨[tP 0 1000000, tP 4 4, tB 48 v4.2], [bX0 4, (1000000, .cells (GXr.k2 v4.1) (GXr.h4_9f v4.1))], []⟩ (.cons (Z24 h347) .nil) ?_
              rcases oif h with ⟨h348, h⟩ | ⟨h348, h⟩
              · refine Wc.cT h348 ?_
                apply Wc.seq
                refine Wc.r0 ⟨[tP 0 1000000, tP 4 4], [bX0 4, (1000000, .cells [.sl (List.map GSign.c v4.1.gList), aI (wr.i64 (v4.1.gAt + 1)), .bool v4.1.gBad, aI v4.1.gDeep, .slx] (GXr.h4_9f v4.1))], []⟩ ?_
                apply Wc.seq
                obtain ⟨u6m, h349, h⟩ := Z0 h
                obtain ⟨u1i, h350, h⟩ := Z0 h
                refine Wc.draw hmix [{}, {}, {}, {}, {}, {}, {}, {}, {}, {}, { v := some (.vptr (GSign.q u6m)) }, {}, {}, { r := some (.v (.agg (GTerm.q u1i.2)) [(3, .app 29)]), outs := [(0, .p (GXr.k2 u1i.1) (GXr.h4_9f u1i.1))] }, { tk := [72] }] [] [4, 5] [4, 1000000] [] ⟨[tP 4 4, tI 5 0], [(4, .cells (GTerm.q u1i.2) [(3, .app 29)]), (1000000, .cells (GXr.k2 u1i.1) (GXr.h4_9f u1i.1))], []⟩ _ (by kernel_rfl) (fun X => by kernel_rfl) (.cons (Z19 (c := GSign.c) (GSign.c_eq u6m) GSign.c_len h349) (.cons (Z18 1 [.str u6m.gText, aI u6m.gNum, aI u6m.gAt, .bool u6m.gNear]) (.cons (Zc8 h350) .nil))) ?_
                refine Wc.fx [.un (.b 4 3)] ⟨[tP 4 4, tI 5 0], [bC 4 (GTerm.q u1i.2), (1000000, .cells (GXr.k2 u1i.1) (GXr.h4_9f u1i.1))], []⟩ ?_
                cases h; exact Wc.ret dn
              · refine Wc.cF h348 ?_
                refine Wc.fx [] ⟨[tP 0 1000000, tP 4 4], [bX0 4, (1000000, .cells (GXr.k2 v4.1) (GXr.h4_9f v4.1))], []⟩ ?_
                refine Wc.skip ?_
                apply Wc.seq
                refine Wc.r0 ⟨[tP 4 4], [bX0 4, (1000000, .cells [.sl (List.map GSign.c v4.1.gList), aI v4.1.gAt, .bool true, aI v4.1.gDeep, .slx] (GXr.h4_9f v4.1))], []⟩ ?_
                apply Wc.seq
                refine Wc.r1 [{}, { tk := [76] }] ⟨[tP 4 4, tI 5 0], [bX0 4, (1000000, .cells [.sl (List.map GSign.c v4.1.gList), aI v4.1.gAt, .bool true, aI v4.1.gDeep, .slx] (GXr.h4_9f v4.1))], []⟩ ?_
                refine Wc.fx [.un (.b 4 3)] ⟨[tP 4 4, tI 5 0], [bC 4 GTerm.z, (1000000, .cells [.sl (List.map GSign.c v4.1.gList), aI v4.1.gAt, .bool true, aI v4.1.gDeep, .slx] (GXr.h4_9f v4.1))], []⟩ ?_
                cases h; exact Wc.ret dn
    · intro u12 r h
      rw [Zb] at h
      refine FnO.o2 Tryz.func98 (rfl : Tryz.f98.body = some _) ?_
      intro w0 X0 Fin pv0 pb gt
      apply Wc.seq
      refine Wc.r0 ⟨[tP 0 1000000, tP 2 2], [bX0 2, (1000000, .cells (GXr.k2 u12) (GXr.h4_9f u12))], []⟩ ?_
      apply Wc.seq
      refine Wc.seqJ (fun st => ∃ (uar : Bool) (vt : GXr), st = ⟨[tP 0 1000000, tP 2 2, tB 48 uar], [bX0 2, (1000000, .cells (GXr.k2 vt) (GXr.h4_9f vt))], []⟩ ∧ Z20 k (Zc k) (Z2 k) (Zb k) (Ze k) (Zd k) (Z8 k) uar vt = some r) ?_ ?_
      · obtain ⟨uq, h356, h⟩ := Z0 h
        rcases oif h with ⟨h357, h⟩ | ⟨h357, h⟩
        · rcases oif h with ⟨h358, h⟩ | ⟨h358, h⟩
          · obtain ⟨u6n, h359, h⟩ := Z0 h
            rcases oif h with ⟨h360, h⟩ | ⟨h360, h⟩
            · obtain ⟨u67, h361, h⟩ := Z0 h
              refine Wc.draw hmix [{}, { r := some (.v (.bool uq.2) []), outs := [(0, .p (GXr.k2 uq.1) (GXr.h4_9f uq.1))] }, rT, {}, {}, {}, {}, {}, {}, {}, {}, {}, { v := some (aI (uq.1.gList.length : Int)) }, {}, {}, rT, {}, {}, {}, {}, {}, {}, {}, {}, {}, { v := some (.vptr (GSign.q u6n)) }, {}, {}, {}, {}, rT, {}, {}, {}, {}, {}, {}, {}, {}, {}, { v := some (.vptr (GSign.q u67)) }] [] [0, 2, 48] [2, 1000000] [] ⟨[tP 0 1000000, tP 2 2, tB 48 (sEq u67.gText (bs [41]))], [bX0 2, (1000000, .cells (GXr.k2 uq.1) (GXr.h4_9f uq.1))], []⟩ _ (by kernel_rfl) (fun X => by kernel_rfl) (.cons (Z24 h356) (cb h357 (.cons (Zn GSign.c uq.1.gList) (cb h358 (.cons (Z19 (c := GSign.c) (GSign.c_eq u6n) GSign.c_len h359) (.cons (Z18 1 (GSign.q u6n)) (cb h360 (.cons (Z19 (c := GSign.c) (GSign.c_eq u67) GSign.c_len h361) (.cons (Z18 1 [.str u67.gText, aI u67.gNum, aI u67.gAt, .bool u67.gNear]) .nil))))))))) ?_
              exact ⟨_, _, rfl, h⟩
            · refine Wc.draw hmix [{}, { r := some (.v (.bool uq.2) []), outs := [(0, .p (GXr.k2 uq.1) (GXr.h4_9f uq.1))] }, rT, {}, {}, {}, {}, {}, {}, {}, {}, {}, { v := some (aI (uq.1.gList.length : Int)) }, {}, {}, rT, {}, {}, {}, {}, {}, {}, {}, {}, {}, { v := some (.vptr (GSign.q u6n)) }, {}, {}, {}, {}, rF] [] [0, 2, 48] [2, 1000000] [] ⟨[tP 0 1000000, tP 2 2, tB 48 false], [bX0 2, (1000000, .cells (GXr.k2 uq.1) (GXr.h4_9f uq.1))], []⟩ _ (by kernel_rfl) (fun X => by kernel_rfl) (.cons (Z24 h356) (cb h357 (.cons (Zn GSign.c uq.1.gList) (cb h358 (.cons (Z19 (c := GSign.c) (GSign.c_eq u6n) GSign.c_len h359) (.cons (Z18 1 (GSign.q u6n)) (cb h360 .nil))))))) ?_
              exact ⟨_, _, rfl, h⟩
          · refine Wc.draw hmix [{}, { r := some (.v (.bool uq.2) []), outs := [(0, .p (GXr.k2 uq.1) (GXr.h4_9f uq.1))] }, rT, {}, {}, {}, {}, {}, {}, {}, {}, {}, { v := some (aI (uq.1.gList.length : Int)) }, {}, {}, rF] [] [0, 2, 48] [2, 1000000] [] ⟨[tP 0 1000000, tP 2 2, tB 48 false], [bX0 2, (1000000, .cells (GXr.k2 uq.1) (GXr.h4_9f uq.1))], []⟩ _ (by kernel_rfl) (fun X => by kernel_rfl) (.cons (Z24 h356) (cb h357 (.cons (Zn GSign.c uq.1.gList) (cb h358 .nil)))) ?_
            exact ⟨_, _, rfl, h⟩
        · refine Wc.draw hmix [{}, { r := some (.v (.bool uq.2) []), outs := [(0, .p (GXr.k2 uq.1) (GXr.h4_9f uq.1))] }, rF] [] [0, 2, 48] [2, 1000000] [] ⟨[tP 0 1000000, tP 2 2, tB 48 false], [bX0 2, (1000000, .cells (GXr.k2 uq.1) (GXr.h4_9f uq.1))], []⟩ _ (by kernel_rfl) (fun X => by kernel_rfl) (.cons (Z24 h356) (cb h357 .nil)) ?_
          exact ⟨_, _, rfl, h⟩
      · rintro st ⟨uar, vt, rfl, h⟩
        rcases oif h with ⟨h351, h⟩ | ⟨h351, h⟩
        · refine Wc.cT h351 ?_
          apply Wc.seq
          refine Wc.r0 ⟨[tP 0 1000000, tP 2 2], [bX0 2, (1000000, .cells [.sl (List.map GSign.c vt.gList), aI (wr.i64 (vt.gAt + 2)), .bool vt.gBad, aI vt.gDeep, .slx] (GXr.h4_9f vt))], []⟩ ?_
          apply Wc.seq
          obtain ⟨u6l, h352, h⟩ := Z0 h
          obtain ⟨uas, h353, h⟩ := Z0 h
          refine Wc.draw hmix [{}, {}, {}, {}, {}, {}, {}, {}, {}, { v := some (.vptr (GSign.q u6l)) }, {}, {}, { r := some (.v (.agg (GTerm.q uas)) [(3, .app 29)]) }, { tk := [69] }] [] [2] [2, 1000000] [] ⟨[tP 2 2], [(2, .cells (GTerm.q uas) [(3, .app 29)]), (1000000, .cells [.sl (List.map GSign.c vt.gList), aI (wr.i64 (vt.gAt + 2)), .bool vt.gBad, aI vt.gDeep, .slx] (GXr.h4_9f vt))], []⟩ _ (by kernel_rfl) (fun X => by kernel_rfl) (.cons (Z19 (c := GSign.c) (GSign.c_eq u6l) GSign.c_len h352) (.cons (Z18 1 [.str u6l.gText, aI u6l.gNum, aI u6l.gAt, .bool u6l.gNear]) (.cons (Zbi h353) .nil))) ?_
          refine Wc.fx [.un (.b 2 3)] ⟨[tP 2 2], [bC 2 (GTerm.q uas), (1000000, .cells [.sl (List.map GSign.c vt.gList), aI (wr.i64 (vt.gAt + 2)), .bool vt.gBad, aI vt.gDeep, .slx] (GXr.h4_9f vt))], []⟩ ?_
          cases h; exact Wc.ret dn
        · refine Wc.cF h351 ?_
          refine Wc.fx [] ⟨[tP 0 1000000, tP 2 2], [bX0 2, (1000000, .cells (GXr.k2 vt) (GXr.h4_9f vt))], []⟩ ?_
          refine Wc.skip ?_
          apply Wc.seq
          obtain ⟨u2d, h354, h⟩ := Z0 h
          refine Wc.r2 [{}, { r := some (.v (.agg (GTerm.q u2d.2)) []), outs := [(0, .p (GXr.k2 u2d.1) (GXr.h4_9f u2d.1))] }] ⟨[tP 0 1000000, tP 2 2, tP 3 3], [bX0 2, bC 3 (GTerm.q u2d.2), (1000000, .cells (GXr.k2 u2d.1) (GXr.h4_9f u2d.1))], []⟩ (.cons (Z3a h354) .nil) ?_
          apply Wc.seq
          obtain ⟨u2e, h355, h⟩ := Z0 h
          refine Wc.r2 [{}, { r := some (.v (.tup []) []), outs := [(0, .p (GXr.k2 u2e) (GXr.h4_9f u2e))] }] ⟨[tP 2 2, tP 3 3], [bX0 2, bC 3 (GTerm.q u2d.2), (1000000, .cells (GXr.k2 u2e) (GXr.h4_9f u2e))], []⟩ (.cons (Z61 h355) .nil) ?_
          apply Wc.seq
          refine Wc.r0 ⟨[tP 2 2], [bC 2 (GTerm.q u2d.2), (1000000, .cells (GXr.k2 u2e) (GXr.h4_9f u2e))], []⟩ ?_
          cases h; exact Wc.ret dn
    · intro u13 r h
      rw [Ze] at h
      refine FnO.o2 Tryz.func99 (rfl : Tryz.f99.body = some _) ?_
      intro w0 X0 Fin pv0 pb gt
      apply Wc.seq
      refine Wc.r0 ⟨[tP 0 1000000, tP 2 2], [bX0 2, (1000000, .cells (GXr.k2 u13) (GXr.h4_9f u13))], []⟩ ?_
      apply Wc.seq
      apply Wc.seq
      obtain ⟨vg, h362, h⟩ := Z0 h
      refine Wc.r2 [{}, { r := some (.v (.bool vg.2) []), outs := [(0, .p (GXr.k2 vg.1) (GXr.h4_9f vg.1))] }] ⟨[tP 0 1000000, tP 2 2, tB 7 vg.2], [bX0 2, (1000000, .cells (GXr.k2 vg.1) (GXr.h4_9f vg.1))], []⟩ (.cons (Z3s h362) .nil) ?_
      rcases oif h with ⟨h363, h⟩ | ⟨h363, h⟩
      · refine Wc.cT h363 ?_
        apply Wc.seq
        obtain ⟨uay, h364, h⟩ := Z0 h
        refine Wc.r2 [{ r := some (.v (.agg (GTerm.q uay)) [(3, .app 29)]) }, { tk := [8] }] ⟨[tP 2 2], [(2, .cells (GTerm.q uay) [(3, .app 29)]), (1000000, .cells (GXr.k2 vg.1) (GXr.h4_9f vg.1))], []⟩ (.cons (Zbi h364) .nil) ?_
        refine Wc.fx [.un (.b 2 3)] ⟨[tP 2 2], [bC 2 (GTerm.q uay), (1000000, .cells (GXr.k2 vg.1) (GXr.h4_9f vg.1))], []⟩ ?_
        cases h; exact Wc.ret dn
      · refine Wc.cF h363 ?_
        refine Wc.fx [] ⟨[tP 0 1000000, tP 2 2], [bX0 2, (1000000, .cells (GXr.k2 vg.1) (GXr.h4_9f vg.1))], []⟩ ?_
        refine Wc.skip ?_
        apply Wc.seq
        refine Wc.r2 [{ c := some (List.map GTerm.c []) }, { tk := [9] }] ⟨[tP 0 1000000, tP 2 2, (3, (.v (.sl (List.map GTerm.c [])), [(0, .app 29)]))], [bX0 2, (1000000, .cells (GXr.k2 vg.1) (GXr.h4_9f vg.1))], []⟩ (.cons (Z4g GTerm.c) .nil) ?_
        apply Wc.seq
        obtain ⟨u1p, h365, h⟩ := Z0 h
        refine Wc.r2 [{ r := some (.v (.agg (GTerm.q u1p)) [(3, .app 29)]) }, {}, { tk := [10] }] ⟨[tP 0 1000000, tP 2 2, (3, (.v (.sl (List.map GTerm.c [])), [(0, .app 29)])), tP 4 4], [bX0 2, (4, .cells (GTerm.q u1p) [(3, .app 29)]), (1000000, .cells (GXr.k2 vg.1) (GXr.h4_9f vg.1))], []⟩ (.cons (Zbi h365) .nil) ?_
        obtain ⟨out1, h366, h⟩ := Z0 h
        refine Wc.seqJ (fun st => ∃ (u1w : List GTerm) (u8h : GTerm) (uy : GXr), out1 = .done (u1w, u8h, uy) ∧ st = ⟨[tP 2 2, (3, (.v (.sl (List.map GTerm.c u1w)), [(0, .app 29)])), tP 4 4], [bX0 2, bC 4 (GTerm.q u8h), (1000000, .cells (GXr.k2 uy) (GXr.h4_9f uy))], []⟩) ?_ ?_
        · refine Wc.block ?_
          refine Wc.loop (fun m st => ∃ (u0n : List GTerm) (zz : GXr), st = ⟨[tP 0 1000000, tP 2 2, (3, (.v (.sl (List.map GTerm.c u0n)), [(0, .app 29)])), tP 4 4], [bX0 2, (4, .cells (GTerm.q u1p) [(3, .app 29)]), (1000000, .cells (GXr.k2 zz) (GXr.h4_9f zz))], []⟩ ∧ Z1q k (Zc k) (Z2 k) (Zb k) (Ze k) (Zd k) (Z8 k) u1p m u0n zz = some out1) ?_ k ⟨_, _, rfl, h366⟩
          rintro m st ⟨u0n, zz, rfl, h366⟩
          cases m with
          | zero => exact (Z1r h366).elim
          | succ m =>
            apply Wc.seq
            apply Wc.seq
            refine Wc.r0 ⟨[tP 0 1000000, tP 2 2, (3, (.v (.sl (List.map GTerm.c u0n)), [(0, .app 29)])), tP 4 4, tB 15 (!zz.gBad)], [bX0 2, (4, .cells (GTerm.q u1p) [(3, .app 29)]), (1000000, .cells (GXr.k2 zz) (GXr.h4_9f zz))], []⟩ ?_
            rcases oif h366 with ⟨h367, h366⟩ | ⟨h367, h366⟩
            · refine Wc.cT h367 ?_
              refine Wc.fx [] ⟨[tP 0 1000000, tP 2 2, (3, (.v (.sl (List.map GTerm.c u0n)), [(0, .app 29)])), tP 4 4], [bX0 2, (4, .cells (GTerm.q u1p) [(3, .app 29)]), (1000000, .cells (GXr.k2 zz) (GXr.h4_9f zz))], []⟩ ?_
              refine Wc.skip ?_
              refine Wc.block ?_
              apply Wc.seq
              obtain ⟨vz, h368, h366⟩ := Z0 h366
              obtain ⟨h369, h366⟩ := Zg h366
              refine Wc.r2 [{ tk := [3] }, {}, { r := some (.v (.agg (GTerm.q vz.2)) []), outs := [(0, .p (GXr.k2 vz.1) (GXr.h4_9f vz.1))] }, { c := some (List.map GTerm.c [vz.2]) }, { c := some (List.map GTerm.c (u0n ++ [vz.2])), tk := [16] }, { tk := [20] }] ⟨[tP 0 1000000, tP 2 2, (3, (.v (.sl (List.map GTerm.c (u0n ++ [vz.2]))), [(0, .app 29)])), tP 4 4], [bX0 2, (4, .cells (GTerm.q u1p) [(3, .app 29)]), (1000000, .cells (GXr.k2 vz.1) (GXr.h4_9f vz.1))], []⟩ (.cons (Z3a h368) (.cons (Z3r (c := GTerm.c) (x := vz.2) (GTerm.c_eq vz.2) (Z4g GTerm.c)) (.cons (Z75 GTerm.c u0n [vz.2]) (.cons (Z53 (c := GTerm.c) (ys := [vz.2]) GTerm.c_leaf) (.cons (Z52 (c := GTerm.c) (xs := u0n) (ys := [vz.2]) GTerm.c_len h369) .nil))))) ?_
              apply Wc.seq
              apply Wc.seq
              obtain ⟨u08, h370, h366⟩ := Z0 h366
              refine Wc.r2 [{}, { r := some (.v (.bool u08.2) []), outs := [(0, .p (GXr.k2 u08.1) (GXr.h4_9f u08.1))] }] ⟨[tP 0 1000000, tP 2 2, (3, (.v (.sl (List.map GTerm.c (u0n ++ [vz.2]))), [(0, .app 29)])), tP 4 4, tB 22 u08.2], [bX0 2, (4, .cells (GTerm.q u1p) [(3, .app 29)]), (1000000, .cells (GXr.k2 u08.1) (GXr.h4_9f u08.1))], []⟩ (.cons (Z3s h370) .nil) ?_
              rcases oif h366 with ⟨h371, h366⟩ | ⟨h371, h366⟩
              · refine Wc.cT h371 ?_
                refine Wc.fx [.un (.b 4 3)] ⟨[tP 2 2, (3, (.v (.sl (List.map GTerm.c (u0n ++ [vz.2]))), [(0, .app 29)])), tP 4 4], [bX0 2, bC 4 (GTerm.q u1p), (1000000, .cells (GXr.k2 u08.1) (GXr.h4_9f u08.1))], []⟩ ?_
                refine Wc.exit ?_
                cases h366
                exact ⟨_, _, _, rfl, rfl⟩
              · refine Wc.cF h371 ?_
                refine Wc.fx [] ⟨[tP 0 1000000, tP 2 2, (3, (.v (.sl (List.map GTerm.c (u0n ++ [vz.2]))), [(0, .app 29)])), tP 4 4], [bX0 2, (4, .cells (GTerm.q u1p) [(3, .app 29)]), (1000000, .cells (GXr.k2 u08.1) (GXr.h4_9f u08.1))], []⟩ ?_
                refine Wc.skip ?_
                apply Wc.seq
                apply Wc.seq
                obtain ⟨u1g, h372, h366⟩ := Z0 h366
                refine Wc.r2 [{}, { r := some (.v (.bool u1g.2) []), outs := [(0, .p (GXr.k2 u1g.1) (GXr.h4_9f u1g.1))] }] ⟨[tP 0 1000000, tP 2 2, (3, (.v (.sl (List.map GTerm.c (u0n ++ [vz.2]))), [(0, .app 29)])), tP 4 4, tB 24 u1g.2], [bX0 2, (4, .cells (GTerm.q u1p) [(3, .app 29)]), (1000000, .cells (GXr.k2 u1g.1) (GXr.h4_9f u1g.1))], []⟩ (.cons (Z3s h372) .nil) ?_
                rcases oif h366 with ⟨h373, h366⟩ | ⟨h373, h366⟩
                · refine Wc.cT h373 ?_
                  apply Wc.seq
                  obtain ⟨u2v, h374, h366⟩ := Z0 h366
                  refine Wc.r2 [{}, { r := some (.v (.agg (GTerm.q u2v.2)) []), outs := [(0, .p (GXr.k2 u2v.1) (GXr.h4_9f u2v.1))] }] ⟨[tP 0 1000000, tP 2 2, (3, (.v (.sl (List.map GTerm.c (u0n ++ [vz.2]))), [(0, .app 29)])), tP 4 4], [bX0 2, bC 4 (GTerm.q u2v.2), (1000000, .cells (GXr.k2 u2v.1) (GXr.h4_9f u2v.1))], []⟩ (.cons (Z3a h374) .nil) ?_
                  apply Wc.seq
                  obtain ⟨u4i, h375, h366⟩ := Z0 h366
                  refine Wc.r2 [{}, { r := some (.v (.tup []) []), outs := [(0, .p (GXr.k2 u4i) (GXr.h4_9f u4i))] }] ⟨[tP 2 2, (3, (.v (.sl (List.map GTerm.c (u0n ++ [vz.2]))), [(0, .app 29)])), tP 4 4], [bX0 2, bC 4 (GTerm.q u2v.2), (1000000, .cells (GXr.k2 u4i) (GXr.h4_9f u4i))], []⟩ (.cons (Z61 h375) .nil) ?_
                  refine Wc.exit ?_
                  cases h366
                  exact ⟨_, _, _, rfl, rfl⟩
                · refine Wc.cF h373 ?_
                  refine Wc.fx [] ⟨[tP 0 1000000, tP 2 2, (3, (.v (.sl (List.map GTerm.c (u0n ++ [vz.2]))), [(0, .app 29)])), tP 4 4], [bX0 2, (4, .cells (GTerm.q u1p) [(3, .app 29)]), (1000000, .cells (GXr.k2 u1g.1) (GXr.h4_9f u1g.1))], []⟩ ?_
                  refine Wc.skip ?_
                  obtain ⟨u4j, h376, h366⟩ := Z0 h366
                  refine Wc.r2 [{}, { r := some (.v (.tup []) []), outs := [(0, .p (GXr.k2 u4j) (GXr.h4_9f u4j))] }] ⟨[tP 0 1000000, tP 2 2, (3, (.v (.sl (List.map GTerm.c (u0n ++ [vz.2]))), [(0, .app 29)])), tP 4 4], [bX0 2, (4, .cells (GTerm.q u1p) [(3, .app 29)]), (1000000, .cells (GXr.k2 u4j) (GXr.h4_9f u4j))], []⟩ (.cons (Z61 h376) .nil) ?_
                  exact ⟨_, Nat.lt_succ_self _, _, _, rfl, h366⟩
            · refine Wc.cF h367 ?_
              refine Wc.fx [.un (.b 4 3)] ⟨[tP 2 2, (3, (.v (.sl (List.map GTerm.c u0n)), [(0, .app 29)])), tP 4 4], [bX0 2, bC 4 (GTerm.q u1p), (1000000, .cells (GXr.k2 zz) (GXr.h4_9f zz))], []⟩ ?_
              refine Wc.exit ?_
              cases h366
              exact ⟨_, _, _, rfl, rfl⟩
        · rintro st ⟨u1w, u8h, uy, rfl, rfl⟩
          apply Wc.seq
          apply Wc.seq
          refine Wc.r2 [{}, { v := some (aI (u1w.length : Int)) }] ⟨[tP 2 2, (3, (.v (.sl (List.map GTerm.c u1w)), [(0, .app 29)])), tP 4 4, tI 5 (wr.i64 ((u1w.length : Int) - 1))], [bX0 2, bC 4 (GTerm.q u8h), (1000000, .cells (GXr.k2 uy) (GXr.h4_9f uy))], []⟩ (.cons (Zn GTerm.c u1w) .nil) ?_
          obtain ⟨out2, h377, h⟩ := Z0 h
          refine Wc.lastJ (fun st => ∃ (u8i : GTerm), out2 = .done u8i ∧ st = ⟨[tP 2 2, tP 4 4], [bX0 2, bC 4 (GTerm.q u8i), (1000000, .cells (GXr.k2 uy) (GXr.h4_9f uy))], []⟩) ?_ ?_
          · refine Wc.block ?_
            refine Wc.loop (fun m st => ∃ (u4k : Int) (u65 : GTerm), st = ⟨[tP 2 2, (3, (.v (.sl (List.map GTerm.c u1w)), [(0, .app 29)])), tP 4 4, tI 5 u4k], [bX0 2, bC 4 (GTerm.q u65), (1000000, .cells (GXr.k2 uy) (GXr.h4_9f uy))], []⟩ ∧ Z2x k (Zc k) (Z2 k) (Zb k) (Ze k) (Zd k) (Z8 k) u1w m u4k u65 = some out2) ?_ k ⟨_, _, rfl, h377⟩
            rintro m st ⟨u4k, u65, rfl, h377⟩
            cases m with
            | zero => exact (Z1r h377).elim
            | succ m =>
              apply Wc.seq
              apply Wc.seq
              refine Wc.r0 ⟨[tP 2 2, (3, (.v (.sl (List.map GTerm.c u1w)), [(0, .app 29)])), tP 4 4, tI 5 u4k, tB 35 (decide (u4k ≥ 0))], [bX0 2, bC 4 (GTerm.q u65), (1000000, .cells (GXr.k2 uy) (GXr.h4_9f uy))], []⟩ ?_
              rcases oif h377 with ⟨h378, h377⟩ | ⟨h378, h377⟩
              · refine Wc.cT h378 ?_
                refine Wc.fx [] ⟨[tP 2 2, (3, (.v (.sl (List.map GTerm.c u1w)), [(0, .app 29)])), tP 4 4, tI 5 u4k], [bX0 2, bC 4 (GTerm.q u65), (1000000, .cells (GXr.k2 uy) (GXr.h4_9f uy))], []⟩ ?_
                refine Wc.skip ?_
                apply Wc.seq
                refine Wc.block ?_
                obtain ⟨uat, h379, h377⟩ := Z0 h377
                obtain ⟨uau, h380, h377⟩ := Z0 h377
                refine Wc.draw hmix [{}, {}, { v := some (.vptr (GTerm.q uat)) }, {}, {}, { r := some (.v (.agg (GTerm.q uau)) [(3, .app 29)]) }, { tk := [43] }] [] [2, 3, 4, 5] [2, 4, 1000000] [] ⟨[tP 2 2, (3, (.v (.sl (List.map GTerm.c u1w)), [(0, .app 29)])), tP 4 4, tI 5 u4k], [bX0 2, (4, .cells (GTerm.q uau) [(3, .app 29)]), (1000000, .cells (GXr.k2 uy) (GXr.h4_9f uy))], []⟩ _ (by kernel_rfl) (fun X => by kernel_rfl) (.cons (Z19 (c := GTerm.c) (GTerm.c_eq uat) GTerm.c_len h379) (.cons (Z18 4 (GTerm.q uat)) (.cons (Zl0 h380) .nil))) ?_
                refine Wc.r3 [] [.un (.b 4 3)] ⟨[tP 2 2, (3, (.v (.sl (List.map GTerm.c u1w)), [(0, .app 29)])), tP 4 4, tI 5 (wr.i64 (u4k - 1))], [bX0 2, bC 4 (GTerm.q uau), (1000000, .cells (GXr.k2 uy) (GXr.h4_9f uy))], []⟩ .nil ?_
                exact ⟨_, Nat.lt_succ_self _, _, _, rfl, h377⟩
              · refine Wc.cF h378 ?_
                refine Wc.fx [] ⟨[tP 2 2, tP 4 4], [bX0 2, bC 4 (GTerm.q u65), (1000000, .cells (GXr.k2 uy) (GXr.h4_9f uy))], []⟩ ?_
                refine Wc.exit ?_
                cases h377
                exact ⟨_, rfl, rfl⟩
          · rintro st ⟨u8i, rfl, rfl⟩
            apply Wc.seq
            refine Wc.r0 ⟨[tP 2 2], [bC 2 (GTerm.q u8i), (1000000, .cells (GXr.k2 uy) (GXr.h4_9f uy))], []⟩ ?_
            cases h; exact Wc.ret dn
    · intro u02 u58 r h
      rw [Zd] at h
      refine FnO.o2 Tryz.func117 (rfl : Tryz.f117.body = some _) ?_
      intro w0 X0 Fin pv0 pb gt
      apply Wc.seq
      refine Wc.r0 ⟨[tP 0 1000000, tS 1 u58, tP 4 4], [bX0 4, (1000000, .cells (GXr.k2 u02) (GXr.h4_9f u02))], []⟩ ?_
      apply Wc.seq
      refine Wc.r1 [{}, {}, {}, { tk := [8] }] ⟨[tP 0 1000000, tP 4 4, tP 5 5], [bX0 4, (5, .cells [aI 4, .str u58, aI 0, .sl (List.map GTerm.c [])] [(3, .app 29)]), (1000000, .cells (GXr.k2 u02) (GXr.h4_9f u02))], []⟩ ?_
      obtain ⟨out1, h381, h⟩ := Z0 h
      refine Wc.seqJ (fun st => ∃ (u8j : GTerm) (u3s : GXr), out1 = .done (u8j, u3s) ∧ st = ⟨[tP 4 4, tP 5 5], [bX0 4, (5, .cells (GTerm.q u8j) [(3, .app 29)]), (1000000, .cells (GXr.k2 u3s) (GXr.h4_9f u3s))], []⟩) ?_ ?_
      · refine Wc.block ?_
        refine Wc.loop (fun m st => ∃ (v0 : GTerm) (u00 : GXr), st = ⟨[tP 0 1000000, tP 4 4, tP 5 5], [bX0 4, (5, .cells (GTerm.q v0) [(3, .app 29)]), (1000000, .cells (GXr.k2 u00) (GXr.h4_9f u00))], []⟩ ∧ Z1e k (Zc k) (Z2 k) (Zb k) (Ze k) (Zd k) (Z8 k) m v0 u00 = some out1) ?_ k ⟨_, _, rfl, h381⟩
        rintro m st ⟨v0, u00, rfl, h381⟩
        cases m with
        | zero => exact (Z1r h381).elim
        | succ m =>
          apply Wc.seq
          apply Wc.seq
          refine Wc.r0 ⟨[tP 0 1000000, tP 4 4, tP 5 5, tB 13 (!u00.gBad)], [bX0 4, (5, .cells (GTerm.q v0) [(3, .app 29)]), (1000000, .cells (GXr.k2 u00) (GXr.h4_9f u00))], []⟩ ?_
          rcases oif h381 with ⟨h382, h381⟩ | ⟨h382, h381⟩
          · refine Wc.cT h382 ?_
            refine Wc.fx [] ⟨[tP 0 1000000, tP 4 4, tP 5 5], [bX0 4, (5, .cells (GTerm.q v0) [(3, .app 29)]), (1000000, .cells (GXr.k2 u00) (GXr.h4_9f u00))], []⟩ ?_
            refine Wc.skip ?_
            refine Wc.block ?_
            apply Wc.seq
            obtain ⟨ux, h383, h381⟩ := Z0 h381
            refine Wc.r2 [{}, { r := some (.v (.agg (GTerm.q ux.2)) []), outs := [(0, .p (GXr.k2 ux.1) (GXr.h4_9f ux.1))] }] ⟨[tP 0 1000000, tP 4 4, tP 5 5, tP 6 6], [bX0 4, (5, .cells (GTerm.q v0) [(3, .app 29)]), bC 6 (GTerm.q ux.2), (1000000, .cells (GXr.k2 ux.1) (GXr.h4_9f ux.1))], []⟩ (.cons (Z3a h383) .nil) ?_
            apply Wc.seq
            apply Wc.seq
            refine Wc.r2 [{}, {}, { v := some (aI (v0.gKids.length : Int)) }] ⟨[tP 0 1000000, tP 4 4, tP 5 5, tP 6 6, tB 19 (decide ((v0.gKids.length : Int) ≥ 5))], [bX0 4, (5, .cells (GTerm.q v0) [(3, .app 29)]), bC 6 (GTerm.q ux.2), (1000000, .cells (GXr.k2 ux.1) (GXr.h4_9f ux.1))], []⟩ (.cons (Zn GTerm.c v0.gKids) .nil) ?_
            rcases oif h381 with ⟨h384, h381⟩ | ⟨h384, h381⟩
            · refine Wc.cT h384 ?_
              apply Wc.seq
              refine Wc.r0 ⟨[tP 4 4, tP 5 5], [bX0 4, (5, .cells (GTerm.q v0) [(3, .app 29)]), (1000000, .cells [.sl (List.map GSign.c ux.1.gList), aI ux.1.gAt, .bool true, aI ux.1.gDeep, .slx] (GXr.h4_9f ux.1))], []⟩ ?_
              refine Wc.exit ?_
              cases h381
              exact ⟨_, _, rfl, rfl⟩
            · refine Wc.cF h384 ?_
              refine Wc.fx [] ⟨[tP 0 1000000, tP 4 4, tP 5 5, tP 6 6], [bX0 4, (5, .cells (GTerm.q v0) [(3, .app 29)]), bC 6 (GTerm.q ux.2), (1000000, .cells (GXr.k2 ux.1) (GXr.h4_9f ux.1))], []⟩ ?_
              refine Wc.skip ?_
              apply Wc.seq
              obtain ⟨h385, h381⟩ := Zg h381
              refine Wc.r2 [{}, { md := 1 }, {}, { c := some (List.map GTerm.c [ux.2]) }, { c := some (List.map GTerm.c (v0.gKids ++ [ux.2])), tk := [24] }, {}, { tk := [27] }] ⟨[tP 0 1000000, tP 4 4, tP 5 5], [bX0 4, (5, .cells [aI v0.gKind, .str v0.gName, aI v0.gNum, .sl (List.map GTerm.c (v0.gKids ++ [ux.2]))] [(3, .app 29)]), (1000000, .cells (GXr.k2 ux.1) (GXr.h4_9f ux.1))], []⟩ (.cons (Z3r (c := GTerm.c) (x := ux.2) (GTerm.c_eq ux.2) (Z4g GTerm.c)) (.cons (Z75 GTerm.c v0.gKids [ux.2]) (.cons (Z53 (c := GTerm.c) (ys := [ux.2]) GTerm.c_leaf) (.cons (Z52 (c := GTerm.c) (xs := v0.gKids) (ys := [ux.2]) GTerm.c_len h385) .nil)))) ?_
              apply Wc.seq
              apply Wc.seq
              obtain ⟨u09, h386, h381⟩ := Z0 h381
              refine Wc.r2 [{}, { r := some (.v (.bool u09.2) []), outs := [(0, .p (GXr.k2 u09.1) (GXr.h4_9f u09.1))] }] ⟨[tP 0 1000000, tP 4 4, tP 5 5, tB 30 u09.2], [bX0 4, (5, .cells [aI v0.gKind, .str v0.gName, aI v0.gNum, .sl (List.map GTerm.c (v0.gKids ++ [ux.2]))] [(3, .app 29)]), (1000000, .cells (GXr.k2 u09.1) (GXr.h4_9f u09.1))], []⟩ (.cons (Z3s h386) .nil) ?_
              rcases oif h381 with ⟨h387, h381⟩ | ⟨h387, h381⟩
              · refine Wc.cT h387 ?_
                refine Wc.fx [] ⟨[tP 4 4, tP 5 5], [bX0 4, (5, .cells [aI v0.gKind, .str v0.gName, aI v0.gNum, .sl (List.map GTerm.c (v0.gKids ++ [ux.2]))] [(3, .app 29)]), (1000000, .cells (GXr.k2 u09.1) (GXr.h4_9f u09.1))], []⟩ ?_
                refine Wc.exit ?_
                cases h381
                exact ⟨_, _, rfl, rfl⟩
              · refine Wc.cF h387 ?_
                refine Wc.fx [] ⟨[tP 0 1000000, tP 4 4, tP 5 5], [bX0 4, (5, .cells [aI v0.gKind, .str v0.gName, aI v0.gNum, .sl (List.map GTerm.c (v0.gKids ++ [ux.2]))] [(3, .app 29)]), (1000000, .cells (GXr.k2 u09.1) (GXr.h4_9f u09.1))], []⟩ ?_
                refine Wc.skip ?_
                obtain ⟨u4l, h388, h381⟩ := Z0 h381
                refine Wc.r2 [{}, { r := some (.v (.tup []) []), outs := [(0, .p (GXr.k2 u4l) (GXr.h4_9f u4l))] }] ⟨[tP 0 1000000, tP 4 4, tP 5 5], [bX0 4, (5, .cells [aI v0.gKind, .str v0.gName, aI v0.gNum, .sl (List.map GTerm.c (v0.gKids ++ [ux.2]))] [(3, .app 29)]), (1000000, .cells (GXr.k2 u4l) (GXr.h4_9f u4l))], []⟩ (.cons (Z61 h388) .nil) ?_
                exact ⟨_, Nat.lt_succ_self _, _, _, rfl, h381⟩
          · refine Wc.cF h382 ?_
            refine Wc.fx [] ⟨[tP 4 4, tP 5 5], [bX0 4, (5, .cells (GTerm.q v0) [(3, .app 29)]), (1000000, .cells (GXr.k2 u00) (GXr.h4_9f u00))], []⟩ ?_
            refine Wc.exit ?_
            cases h381
            exact ⟨_, _, rfl, rfl⟩
      · rintro st ⟨u8j, u3s, rfl, rfl⟩
        apply Wc.seq
        refine Wc.r1 [{ md := 1 }, { tk := [33] }] ⟨[tP 4 4], [(4, .cells (GTerm.q u8j) [(3, .app 29)]), (1000000, .cells (GXr.k2 u3s) (GXr.h4_9f u3s))], []⟩ ?_
        cases h; exact Wc.ret dn
    · intro ul vp r h
      rw [Z8] at h
      refine FnO.o2 Tryz.func40 (rfl : Tryz.f40.body = some _) ?_
      intro w0 X0 Fin pv0 pb gt
      apply Wc.seq
      refine Wc.r0 ⟨[tP 0 1000000, tI 1 vp, tP 4 4], [bX0 4, (1000000, .cells (GXr.k2 ul) (GXr.h4_9f ul))], []⟩ ?_
      apply Wc.seq
      refine Wc.r0 ⟨[tP 0 1000000, tI 1 vp, tP 4 4], [bX0 4, (1000000, .cells [.sl (List.map GSign.c ul.gList), aI ul.gAt, .bool ul.gBad, aI (wr.i64 (ul.gDeep + 1)), .slx] (GXr.h4_9f ul))], []⟩ ?_
      apply Wc.seq
      refine Wc.seqJ (fun st => ∃ (uaw : Bool), st = ⟨[tP 0 1000000, tI 1 vp, tP 4 4, tB 28 uaw], [bX0 4, (1000000, .cells [.sl (List.map GSign.c ul.gList), aI ul.gAt, .bool ul.gBad, aI (wr.i64 (ul.gDeep + 1)), .slx] (GXr.h4_9f ul))], []⟩ ∧ Z40 k (Zc k) (Z2 k) (Zb k) (Ze k) (Zd k) (Z8 k) ul vp uaw = some r) ?_ ?_
      · rcases oif h with ⟨h399, h⟩ | ⟨h399, h⟩
        · refine Wc.r2 [{}, {}, {}, {}, rT] ⟨[tP 0 1000000, tI 1 vp, tP 4 4, tB 28 true], [bX0 4, (1000000, .cells [.sl (List.map GSign.c ul.gList), aI ul.gAt, .bool ul.gBad, aI (wr.i64 (ul.gDeep + 1)), .slx] (GXr.h4_9f ul))], []⟩ (cb h399 .nil) ?_
          exact ⟨_, rfl, h⟩
        · refine Wc.r2 [{}, {}, {}, {}, rF] ⟨[tP 0 1000000, tI 1 vp, tP 4 4, tB 28 (decide ((wr.i64 (ul.gDeep + 1)) > 130))], [bX0 4, (1000000, .cells [.sl (List.map GSign.c ul.gList), aI ul.gAt, .bool ul.gBad, aI (wr.i64 (ul.gDeep + 1)), .slx] (GXr.h4_9f ul))], []⟩ (cb h399 .nil) ?_
          exact ⟨_, rfl, h⟩
      · rintro st ⟨uaw, rfl, h⟩
        rcases oif h with ⟨h389, h⟩ | ⟨h389, h⟩
        · refine Wc.cT h389 ?_
          apply Wc.seq
          refine Wc.r0 ⟨[tP 4 4], [bX0 4, (1000000, .cells [.sl (List.map GSign.c ul.gList), aI ul.gAt, .bool true, aI (wr.i64 (ul.gDeep + 1)), .slx] (GXr.h4_9f ul))], []⟩ ?_
          apply Wc.seq
          refine Wc.r1 [{}, { tk := [32] }] ⟨[tP 4 4], [bX0 4, (1000000, .cells [.sl (List.map GSign.c ul.gList), aI ul.gAt, .bool true, aI (wr.i64 (ul.gDeep + 1)), .slx] (GXr.h4_9f ul))], []⟩ ?_
          refine Wc.fx [.un (.b 4 3)] ⟨[tP 4 4], [bC 4 GTerm.z, (1000000, .cells [.sl (List.map GSign.c ul.gList), aI ul.gAt, .bool true, aI (wr.i64 (ul.gDeep + 1)), .slx] (GXr.h4_9f ul))], []⟩ ?_
          cases h; exact Wc.ret dn
        · refine Wc.cF h389 ?_
          refine Wc.fx [] ⟨[tP 0 1000000, tI 1 vp, tP 4 4], [bX0 4, (1000000, .cells [.sl (List.map GSign.c ul.gList), aI ul.gAt, .bool ul.gBad, aI (wr.i64 (ul.gDeep + 1)), .slx] (GXr.h4_9f ul))], []⟩ ?_
          refine Wc.skip ?_
          apply Wc.seq
          obtain ⟨u21, h390, h⟩ := Z0 h
          refine Wc.r2 [{}, {}, { r := some (.v (.tup [.agg (GTerm.q u21.2.1), aI u21.2.2]) []), outs := [(0, .p (GXr.k2 u21.1) (GXr.h4_9f u21.1))] }] ⟨[tP 0 1000000, tI 1 vp, tP 4 4, tP 5 5, tI 6 u21.2.2], [bX0 4, bC 5 (GTerm.q u21.2.1), (1000000, .cells (GXr.k2 u21.1) (GXr.h4_9f u21.1))], []⟩ (.cons (Zax h390) .nil) ?_
          obtain ⟨out2, h391, h⟩ := Z0 h
          refine Wc.seqJ (fun st => ∃ (u7i : GTerm) (u0u : GXr), out2 = .done (u7i, u0u) ∧ st = ⟨[tP 0 1000000, tP 4 4, tP 5 5], [bX0 4, bC 5 (GTerm.q u7i), (1000000, .cells (GXr.k2 u0u) (GXr.h4_9f u0u))], []⟩) ?_ ?_
          · refine Wc.block ?_
            refine Wc.loop (fun m st => ∃ (u66 : Int) (u10 : GTerm) (u01 : GXr), st = ⟨[tP 0 1000000, tI 1 vp, tP 4 4, tP 5 5, tI 6 u66], [bX0 4, bC 5 (GTerm.q u10), (1000000, .cells (GXr.k2 u01) (GXr.h4_9f u01))], []⟩ ∧ Z1m k (Zc k) (Z2 k) (Zb k) (Ze k) (Zd k) (Z8 k) vp m u66 u10 u01 = some out2) ?_ k ⟨_, _, _, rfl, h391⟩
            rintro m st ⟨u66, u10, u01, rfl, h391⟩
            cases m with
            | zero => exact (Z1r h391).elim
            | succ m =>
              apply Wc.seq
              apply Wc.seq
              refine Wc.r0 ⟨[tP 0 1000000, tI 1 vp, tP 4 4, tP 5 5, tI 6 u66, tB 43 (!u01.gBad)], [bX0 4, bC 5 (GTerm.q u10), (1000000, .cells (GXr.k2 u01) (GXr.h4_9f u01))], []⟩ ?_
              rcases oif h391 with ⟨h392, h391⟩ | ⟨h392, h391⟩
              · refine Wc.cT h392 ?_
                refine Wc.fx [] ⟨[tP 0 1000000, tI 1 vp, tP 4 4, tP 5 5, tI 6 u66], [bX0 4, bC 5 (GTerm.q u10), (1000000, .cells (GXr.k2 u01) (GXr.h4_9f u01))], []⟩ ?_
                refine Wc.skip ?_
                refine Wc.block ?_
                apply Wc.seq
                obtain ⟨uf, h393, h391⟩ := Z0 h391
                refine Wc.r2 [{}, { r := some (.v (.tup [.agg (GOp.q uf.2.1), .bool uf.2.2]) []), outs := [(0, .p (GXr.k2 uf.1) (GXr.h4_9f uf.1))] }] ⟨[tP 0 1000000, tI 1 vp, tP 4 4, tP 5 5, tI 6 u66, tP 7 7, tB 8 uf.2.2], [bX0 4, bC 5 (GTerm.q u10), bC 7 (GOp.q uf.2.1), (1000000, .cells (GXr.k2 uf.1) (GXr.h4_9f uf.1))], []⟩ (.cons (Zei h393) .nil) ?_
                apply Wc.seq
                apply Wc.seq
                rcases oif h391 with ⟨h394, h391⟩ | ⟨h394, h391⟩
                · refine Wc.r2 [{}, {}, rT] ⟨[tP 0 1000000, tI 1 vp, tP 4 4, tP 5 5, tP 7 7, tB 62 true], [bX0 4, bC 5 (GTerm.q u10), bC 7 (GOp.q uf.2.1), (1000000, .cells (GXr.k2 uf.1) (GXr.h4_9f uf.1))], []⟩ (cb h394 .nil) ?_
                  refine Wc.cT rfl ?_
                  refine Wc.fx [] ⟨[tP 0 1000000, tP 4 4, tP 5 5], [bX0 4, bC 5 (GTerm.q u10), (1000000, .cells (GXr.k2 uf.1) (GXr.h4_9f uf.1))], []⟩ ?_
                  refine Wc.exit ?_
                  cases h391
                  exact ⟨_, _, rfl, rfl⟩
                · rcases oif h391 with ⟨h395, h391⟩ | ⟨h395, h391⟩
                  · refine Wc.r2 [{}, {}, rF, {}, {}, {}, {}, {}, rT] ⟨[tP 0 1000000, tI 1 vp, tP 4 4, tP 5 5, tP 7 7, tB 62 true], [bX0 4, bC 5 (GTerm.q u10), bC 7 (GOp.q uf.2.1), (1000000, .cells (GXr.k2 uf.1) (GXr.h4_9f uf.1))], []⟩ (cb h394 (cb h395 .nil)) ?_
                    refine Wc.cT rfl ?_
                    refine Wc.fx [] ⟨[tP 0 1000000, tP 4 4, tP 5 5], [bX0 4, bC 5 (GTerm.q u10), (1000000, .cells (GXr.k2 uf.1) (GXr.h4_9f uf.1))], []⟩ ?_
                    refine Wc.exit ?_
                    cases h391
                    exact ⟨_, _, rfl, rfl⟩
                  · refine Wc.r2 [{}, {}, rF, {}, {}, {}, {}, {}, rF] ⟨[tP 0 1000000, tI 1 vp, tP 4 4, tP 5 5, tP 7 7, tB 62 (decide (uf.2.1.gLeft < u66))], [bX0 4, bC 5 (GTerm.q u10), bC 7 (GOp.q uf.2.1), (1000000, .cells (GXr.k2 uf.1) (GXr.h4_9f uf.1))], []⟩ (cb h394 (cb h395 .nil)) ?_
                    rcases oif h391 with ⟨h396, h391⟩ | ⟨h396, h391⟩
                    · refine Wc.cT h396 ?_
                      refine Wc.fx [] ⟨[tP 0 1000000, tP 4 4, tP 5 5], [bX0 4, bC 5 (GTerm.q u10), (1000000, .cells (GXr.k2 uf.1) (GXr.h4_9f uf.1))], []⟩ ?_
                      refine Wc.exit ?_
                      cases h391
                      exact ⟨_, _, rfl, rfl⟩
                    · refine Wc.cF h396 ?_
                      refine Wc.fx [] ⟨[tP 0 1000000, tI 1 vp, tP 4 4, tP 5 5, tP 7 7], [bX0 4, bC 5 (GTerm.q u10), bC 7 (GOp.q uf.2.1), (1000000, .cells (GXr.k2 uf.1) (GXr.h4_9f uf.1))], []⟩ ?_
                      refine Wc.skip ?_
                      apply Wc.seq
                      refine Wc.r0 ⟨[tP 0 1000000, tI 1 vp, tP 4 4, tP 5 5, tP 7 7], [bX0 4, bC 5 (GTerm.q u10), bC 7 (GOp.q uf.2.1), (1000000, .cells [.sl (List.map GSign.c uf.1.gList), aI (wr.i64 (uf.1.gAt + 1)), .bool uf.1.gBad, aI uf.1.gDeep, .slx] (GXr.h4_9f uf.1))], []⟩ ?_
                      apply Wc.seq
                      obtain ⟨u0f, h397, h391⟩ := Z0 h391
                      refine Wc.r2 [{}, {}, {}, { r := some (.v (.agg (GTerm.q u0f.2)) []), outs := [(0, .p (GXr.k2 u0f.1) (GXr.h4_9f u0f.1))] }] ⟨[tP 0 1000000, tI 1 vp, tP 4 4, tP 5 5, tP 7 7, tP 9 9], [bX0 4, bC 5 (GTerm.q u10), bC 7 (GOp.q uf.2.1), bC 9 (GTerm.q u0f.2), (1000000, .cells (GXr.k2 u0f.1) (GXr.h4_9f u0f.1))], []⟩ (.cons (Z3a h397) .nil) ?_
                      apply Wc.seq
                      obtain ⟨uav, h398, h391⟩ := Z0 h391
                      refine Wc.r2 [{}, {}, {}, {}, { r := some (.v (.agg (GTerm.q uav)) [(3, .app 29)]) }, { tk := [79] }] ⟨[tP 0 1000000, tI 1 vp, tP 4 4, tP 5 5, tP 7 7], [bX0 4, (5, .cells (GTerm.q uav) [(3, .app 29)]), bC 7 (GOp.q uf.2.1), (1000000, .cells (GXr.k2 u0f.1) (GXr.h4_9f u0f.1))], []⟩ (.cons (Zl0 h398) .nil) ?_
                      refine Wc.r3 [] [.un (.b 5 3)] ⟨[tP 0 1000000, tI 1 vp, tP 4 4, tP 5 5, tI 6 uf.2.1.gPrio], [bX0 4, bC 5 (GTerm.q uav), (1000000, .cells (GXr.k2 u0f.1) (GXr.h4_9f u0f.1))], []⟩ .nil ?_
                      exact ⟨_, Nat.lt_succ_self _, _, _, _, rfl, h391⟩
              · refine Wc.cF h392 ?_
                refine Wc.fx [] ⟨[tP 0 1000000, tP 4 4, tP 5 5], [bX0 4, bC 5 (GTerm.q u10), (1000000, .cells (GXr.k2 u01) (GXr.h4_9f u01))], []⟩ ?_
                refine Wc.exit ?_
                cases h391
                exact ⟨_, _, rfl, rfl⟩
          · rintro st ⟨u7i, u0u, rfl, rfl⟩
            apply Wc.seq
            refine Wc.r0 ⟨[tP 4 4, tP 5 5], [bX0 4, bC 5 (GTerm.q u7i), (1000000, .cells [.sl (List.map GSign.c u0u.gList), aI u0u.gAt, .bool u0u.gBad, aI (wr.i64 (u0u.gDeep - 1)), .slx] (GXr.h4_9f u0u))], []⟩ ?_
            apply Wc.seq
            refine Wc.r0 ⟨[tP 4 4], [bC 4 (GTerm.q u7i), (1000000, .cells [.sl (List.map GSign.c u0u.gList), aI u0u.gAt, .bool u0u.gBad, aI (wr.i64 (u0u.gDeep - 1)), .slx] (GXr.h4_9f u0u))], []⟩ ?_
            cases h; exact Wc.ret dn
theorem Zgi {k : Nat} {ul : GXr} {vp : Int} {r : GXr × GTerm} (h : Z8 k ul vp = some r) : FnO Tryz.prog 40 [.p (GXr.k2 ul) (GXr.h4_9f ul), .v (aI vp) []] (.v (.agg (GTerm.q r.2)) []) [(0, .p (GXr.k2 r.1) (GXr.h4_9f r.1))] := (Zca k).2.2.2.2.2 h

def Z4e (k : Nat) (u1q : Int) (u0g : GXr × GTerm) (uaz : Bool) (u14 : GXr) : Option (GTerm × (List ByteArray) × Int × Bool) :=
  if uaz = true then
    some (GTerm.mk 0 (bs []) 0 [], [], u1q, false)
  else
    if ([] : List ByteArray).length + u14.gNames.length ≤ 1073741824 then
      some (u0g.2, u14.gNames, wr.i64 (u14.gAt + 1), true)
    else none
def Z5g (k : Nat) (u42 : List GSign) (u59 : Int) : Option (GTerm × (List ByteArray) × Int × Bool) :=
  (Z5d k u42 u59).bind fun u1q =>
  (Z7y k u59 0 (wr.i64 ((u42.length : Int) - 1))).bind fun ue1 =>
  if (!ue1) = true then
    some (GTerm.mk 0 (bs []) 0 [], [], u1q, false)
  else
    (Z8 k (GXr.mk u42 u59 false 0 []) 1200).bind fun u0g =>
    (Z1i k u0g.1 5 (bs [])).bind fun u0a =>
    if (!u0a.2) = true then
      Z4e k u1q u0g true u0a.1
    else
      (Z8e k u0g.2).bind fun ue2 =>
      Z4e k u1q u0g (!ue2) u0a.1
theorem Zl6 {k : Nat} {u42 : List GSign} {u59 : Int} {r : GTerm × (List ByteArray) × Int × Bool} (h : Z5g k u42 u59 = some r) : FnO Tryz.prog 23 [.v (.sl (List.map GSign.c u42)) [], .v (aI u59) []] (.v (.tup [.agg (GTerm.q r.1), .sl (List.map cS r.2.1), aI r.2.2.1, .bool r.2.2.2]) [(4, .app 9)]) [] := by
  refine FnO.o2 Tryz.func23 (rfl : Tryz.f23.body = some _) ?_
  intro w0 X0 Fin pv0 pb gt
  unfold Z5g at h
  apply Wc.seq
  refine Wc.r0 ⟨[tV 0 (.sl (List.map GSign.c u42)), tI 1 u59, tP 4 4], [bX0 4], []⟩ ?_
  apply Wc.seq
  obtain ⟨u1q, h409, h⟩ := Z0 h
  refine Wc.r2 [{}, {}, { r := some (.v (aI u1q) []) }] ⟨[tV 0 (.sl (List.map GSign.c u42)), tI 1 u59, tP 4 4, tI 8 u1q], [bX0 4], []⟩ (.cons (Zkx h409) .nil) ?_
  apply Wc.seq
  apply Wc.seq
  obtain ⟨ue1, h410, h⟩ := Z0 h
  refine Wc.r2 [{}, {}, { v := some (aI (u42.length : Int)) }, {}, { r := some (.v (.bool ue1) []) }] ⟨[tV 0 (.sl (List.map GSign.c u42)), tI 1 u59, tP 4 4, tI 8 u1q, tB 19 (!ue1)], [bX0 4], []⟩ (.cons (Zn GSign.c u42) (.cons (Z82 h410) .nil)) ?_
  rcases oif h with ⟨h411, h⟩ | ⟨h411, h⟩
  · refine Wc.cT h411 ?_
    apply Wc.seq
    refine Wc.r2 [{}, { c := some (List.map cS []) }, {}, { tk := [20] }, { tk := [21] }] ⟨[tP 4 4, (5, (.v (.sl (List.map cS [])), [(0, .app 9)])), tI 6 u1q, tB 7 false], [bX0 4], []⟩ (.cons (Z4g cS) .nil) ?_
    refine Wc.fx [.un (.b 4 3)] ⟨[tP 4 4, (5, (.v (.sl (List.map cS [])), [(0, .app 9)])), tI 6 u1q, tB 7 false], [bC 4 GTerm.z], []⟩ ?_
    cases h; exact Wc.ret dn
  · refine Wc.cF h411 ?_
    refine Wc.fx [] ⟨[tV 0 (.sl (List.map GSign.c u42)), tI 1 u59, tP 4 4, tI 8 u1q], [bX0 4], []⟩ ?_
    refine Wc.skip ?_
    apply Wc.seq
    refine Wc.r1 [{}, {}, {}, { tk := [25] }] ⟨[tP 4 4, tI 8 u1q, tP 9 26], [bX0 4, (26, .cells [.sl (List.map GSign.c u42), aI u59, .bool false, aI 0, .sl (List.map cS [])] [(4, .app 9)])], []⟩ ?_
    apply Wc.seq
    obtain ⟨u0g, h412, h⟩ := Z0 h
    refine Wc.r2 [{}, { r := some (.v (.agg (GTerm.q u0g.2)) []), outs := [(0, .p (GXr.k2 u0g.1) (GXr.h4_9f u0g.1))], fx := [.ow (.b 26 4) false] }] ⟨[tP 4 4, tI 8 u1q, tP 9 26, tP 10 10], [bX0 4, bC 10 (GTerm.q u0g.2), (26, .cells (GXr.k2 u0g.1) (GXr.h4_9f u0g.1))], []⟩ (.cons (Zgi h412) .nil) ?_
    apply Wc.seq
    refine Wc.seqJ (fun st => ∃ (uaz : Bool) (u14 : GXr), st = ⟨[tP 4 4, tI 8 u1q, tP 9 26, tP 10 10, tB 36 uaz], [bX0 4, bC 10 (GTerm.q u0g.2), (26, .cells (GXr.k2 u14) (GXr.h4_9f u14))], []⟩ ∧ Z4e k u1q u0g uaz u14 = some r) ?_ ?_
    · obtain ⟨u0a, h415, h⟩ := Z0 h
      rcases oif h with ⟨h416, h⟩ | ⟨h416, h⟩
      · refine Wc.r2 [{}, { r := some (.v (.bool u0a.2) []), outs := [(0, .p (GXr.k2 u0a.1) (GXr.h4_9f u0a.1))] }, {}, rT] ⟨[tP 4 4, tI 8 u1q, tP 9 26, tP 10 10, tB 36 true], [bX0 4, bC 10 (GTerm.q u0g.2), (26, .cells (GXr.k2 u0a.1) (GXr.h4_9f u0a.1))], []⟩ (.cons (Z24 h415) (cb h416 .nil)) ?_
        exact ⟨_, _, rfl, h⟩
      · obtain ⟨ue2, h417, h⟩ := Z0 h
        refine Wc.r2 [{}, { r := some (.v (.bool u0a.2) []), outs := [(0, .p (GXr.k2 u0a.1) (GXr.h4_9f u0a.1))] }, {}, rF, {}, { r := some (.v (.bool ue2) []) }] ⟨[tP 4 4, tI 8 u1q, tP 9 26, tP 10 10, tB 36 (!ue2)], [bX0 4, bC 10 (GTerm.q u0g.2), (26, .cells (GXr.k2 u0a.1) (GXr.h4_9f u0a.1))], []⟩ (.cons (Z24 h415) (cb h416 (.cons (Zgl h417) .nil))) ?_
        exact ⟨_, _, rfl, h⟩
    · rintro st ⟨uaz, u14, rfl, h⟩
      rcases oif h with ⟨h413, h⟩ | ⟨h413, h⟩
      · refine Wc.cT h413 ?_
        apply Wc.seq
        refine Wc.r2 [{}, { c := some (List.map cS []) }, {}, { tk := [37] }, { tk := [38] }] ⟨[tP 4 4, (5, (.v (.sl (List.map cS [])), [(0, .app 9)])), tI 6 u1q, tB 7 false], [bX0 4], []⟩ (.cons (Z4g cS) .nil) ?_
        refine Wc.fx [.un (.b 4 3)] ⟨[tP 4 4, (5, (.v (.sl (List.map cS [])), [(0, .app 9)])), tI 6 u1q, tB 7 false], [bC 4 GTerm.z], []⟩ ?_
        cases h; exact Wc.ret dn
      · refine Wc.cF h413 ?_
        refine Wc.fx [] ⟨[tP 4 4, tP 9 26, tP 10 10], [bX0 4, bC 10 (GTerm.q u0g.2), (26, .cells (GXr.k2 u14) (GXr.h4_9f u14))], []⟩ ?_
        refine Wc.skip ?_
        apply Wc.seq
        obtain ⟨h414, h⟩ := Zg h
        refine Wc.draw hmix [{}, { c := some (List.map cS []) }, {}, {}, {}, {}, { c := some (List.map cS u14.gNames), tk := [41] }, {}, {}, {}, {}, {}, {}, { tk := [46] }] [] [4, 5, 6, 7] [4] [] ⟨[tP 4 4, (5, (.v (.sl (List.map cS u14.gNames)), [(0, .app 9)])), tI 6 (wr.i64 (u14.gAt + 1)), tB 7 true], [bC 4 (GTerm.q u0g.2)], []⟩ _ (by kernel_rfl) (fun X => by kernel_rfl) (.cons (Z4g cS) (.cons (Zuf cS u14.gNames) (.cons (Z53 (c := cS) (ys := u14.gNames) Zj7) (.cons (Z52 (c := cS) (xs := []) (ys := u14.gNames) Zht h414) .nil)))) ?_
        cases h; exact Wc.ret dn
end Go.Proofs.YtkchjlmfonfjlaaGreatDoor

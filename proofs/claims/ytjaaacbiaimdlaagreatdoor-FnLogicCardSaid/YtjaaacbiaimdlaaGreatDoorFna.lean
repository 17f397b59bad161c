/- What the functions do, part 1. -/
import Derived.Test.YtjaaacbiaimdlaaGreatDoorTy
set_option linter.unusedVariables false
set_option linter.unusedSimpArgs false
namespace Go.Proofs.YtjaaacbiaimdlaaGreatDoor
open Go.RowKit Go.Bv
def Z8t (k : Nat) (u01 : List Int) : Nat → Int → Int → Option (Out GXc Int)
 | 0, _, _ => none
 | m + 1, vy, u0j =>
  if (decide (u0j < (u01.length : Int))) = true then
   if (decide (u0j < 4000)) = true then
    (at' u01 u0j).bind fun u0q =>
    Z8t k u01 m (band .i64 (wr.i64 ((wr.i64 ((wr.i64 (vy * 131)) + (wr.i64 u0q))) + 7)) 1073741823) (wr.i64 (u0j + 1))
   else
    some (.done vy)
  else
   some (.done vy)
def Zbk (k : Nat) (u01 : List Int) : Option GXc :=
 (Z8t k u01 k (wr.i64 (95101 + (u01.length : Int))) 0).bind fun out1 => match out1 with
 | .ret r => some r
 | .done vh =>
  some (GXc.mk u01 0 vh)
theorem Zpl {k : Nat} {u01 : List Int} {r : GXc} (h : Zbk k u01 = some r) : FnO Tryz.prog 9 [.v (.sl (List.map cI.u8 u01)) []] (.p (GXc.q r) []) [] := by
 refine FnO.o2 Tryz.func9 rfl fun _ _ _ _ _ _ => ?_
 unfold Zbk at h
 refine Wc.s0 [0] [] ?_
 refine Wc.s2 [{}, hL u01] [0, 3] [] (o1 (Z2 cI.u8 u01)) ?_
 apply Wc.seq
 refine Wc.s0 [0, 3, 4] [] ?_
 obtain ⟨out1, h1, h⟩ := Z2d h
 refine Wc.lastJ (fun st => ∃ (vh : Int), out1 = .done vh ∧ st = ⟨[tV 0 (.sl (List.map cI.u8 u01)), tI 3 vh], [], []⟩) ?_ ?_
 ·apply Wc.block
  refine Wc.loop (fun m st => ∃ (vy : Int) (u0j : Int), st = ⟨[tV 0 (.sl (List.map cI.u8 u01)), tI 3 vy, tI 4 u0j], [], []⟩ ∧ Z8t k u01 m vy u0j = some out1) ?_ k ⟨_, _, stB h1⟩
  rintro m st ⟨vy, u0j, rfl, h1⟩
  rcases m with _ | m
  ·exact (Zk h1).elim
  apply Wc.seq
  rcases oif h1 with ⟨h2, h1⟩ | ⟨h2, h1⟩
  ·refine Wc.s2 [{}, {}, hL u01, {}, rT] [0, 3, 4, 15] [] (o2 (Z2 cI.u8 u01) (cb h2)) ?_
   refine Wc.ci h1 (fun _ h1 => ?_) (fun _ h1 => ?_)
   ·refine Wc.ks [0, 3, 4] [] ?_
    apply Wc.seq
    apply Wc.block
    obtain ⟨u0q, h4, h1⟩ := oc h1 fun u0q h4 => (Z11 (c := cI.u8) rfl cI.u8_len h4)
    refine Wc.k2 [{}, {}, {}, {}, hE h4] [0, 3, 4] [] (o2 h4 (lenE h4 1)) ?_
    refine Wc.k0 [0, 3, 4] [] ?_
    exact ⟨_, Nat.lt_succ_self _, _, _, stB h1⟩
   refine Wc.ke [0, 3] [] ?_
   cases h1; exact ⟨_, rfl, by kernel_rfl⟩
  refine Wc.s2 [{}, {}, hL u01, {}, rF] [0, 3, 4, 15] [] (o2 (Z2 cI.u8 u01) (cb h2)) ?_
  refine Wc.cF rfl ?_
  refine Wc.ke [0, 3] [] ?_
  cases h1; exact ⟨_, rfl, by kernel_rfl⟩
 rintro st ⟨vh, rfl, rfl⟩
 refine Wc.s0 [2] [31] ?_
 cases h; exact Wc.ret dn

def Zap (k : Nat) (z0 : Int) (vd : Int) (ud : Int) : Option Bool :=
 if (decide (z0 ≥ vd)) = true then
  some (decide (z0 ≤ ud))
 else
  some false
theorem Zec {k : Nat} {z0 : Int} {vd : Int} {ud : Int} {r : Bool} (h : Zap k z0 vd ud = some r) : FnO Tryz.prog 70 [.v (aI z0) [], .v (aI vd) [], .v (aI ud) []] (.v (.bool r) []) [] := by
 refine FnO.o2 Tryz.func70 rfl fun _ _ _ _ _ _ => ?_
 unfold Zap at h
 refine Wc.s0 [0, 1, 2] [] ?_
 rcases oif h with ⟨h8, h⟩ | ⟨h8, h⟩
 ·refine Wc.s2 [{}, {}, {}, rT] [6] [] (o1 (cb h8)) ?_
  cases h; exact Wc.ret dn
 refine Wc.s2 [{}, {}, {}, rF] [6] [] (o1 (cb h8)) ?_
 cases h; exact Wc.ret dn

def Zca (k : Nat) (ue : ByteArray) : Nat → Int → Option (Out Bool Unit)
 | 0, _ => none
 | m + 1, ud =>
  if (decide (ud < (ue.size : Int))) = true then
   if 0 ≤ ud ∧ (ud).toNat < ue.size then
    if (decide ((bt ue ud) < 33)) = true then
     none
    else
     if 0 ≤ ud ∧ (ud).toNat < ue.size then
      if (decide ((bt ue ud) > 126)) = true then
       none
      else
       if 0 ≤ ud ∧ (ud).toNat < ue.size then
        if ((bt ue ud) == 39) = true then
         none
        else
         if 0 ≤ ud ∧ (ud).toNat < ue.size then
          if ((bt ue ud) == 34) = true then
           none
          else
           Zca k ue m (wr.i64 (ud + 1))
         else none
       else none
     else none
   else none
  else
   some (.done ())
def Ze4 (k : Nat) (ue : ByteArray) : Option Bool :=
 (Zca k ue k 0).bind fun out1 => match out1 with
 | .ret r => some r
 | .done () =>
  (Zap k (ue.size : Int) 1 20).bind fun u0c =>
  some u0c
theorem Zm7 {k : Nat} {ue : ByteArray} {r : Bool} (h : Ze4 k ue = some r) : FnO Tryz.prog 131 [.v (.str ue) []] (.v (.bool r) []) [] := by
 refine FnO.o2 Tryz.func131 rfl fun _ _ _ _ _ _ => ?_
 unfold Ze4 at h
 refine Wc.s0 [0] [] ?_
 apply Wc.seq
 refine Wc.s0 [0, 3] [] ?_
 obtain ⟨out1, h13, h⟩ := Z2d h
 refine Wc.lastJ (fun st => out1 = .done () ∧ st = ⟨[tS 0 ue], [], []⟩) ?_ ?_
 ·apply Wc.block
  refine Wc.loop (fun m st => ∃ (ud : Int), st = ⟨[tS 0 ue, tI 3 ud], [], []⟩ ∧ Zca k ue m ud = some out1) ?_ k ⟨_, stB h13⟩
  rintro m st ⟨ud, rfl, h13⟩
  rcases m with _ | m
  ·exact (Zk h13).elim
  apply Wc.seq
  refine Wc.s0 [0, 3, 7] [] ?_
  refine Wc.ci h13 (fun _ h13 => ?_) (fun _ h13 => ?_)
  ·refine Wc.ks [0, 3] [] ?_
   apply Wc.seq
   apply Wc.block
   obtain ⟨h15, h13⟩ := Z4 h13
   rcases oif h13 with ⟨h16, h13⟩ | ⟨h16, h13⟩
   ·refine Wc.s2 [{}, {}, {}, {}, rT] [0, 3, 31] [] (o2 h15 (cb h16)) ?_
    refine Wc.cT rfl ?_
    exact (Zk h13).elim
   obtain ⟨h17, h13⟩ := Z4 h13
   rcases oif h13 with ⟨h18, h13⟩ | ⟨h18, h13⟩
   ·refine Wc.s2 [{}, {}, {}, {}, rF, {}, {}, {}, {}, {}, rT] [0, 3, 31] [] (o4 h15 (cb h16) h17 (cb h18)) ?_
    refine Wc.cT rfl ?_
    exact (Zk h13).elim
   obtain ⟨h19, h13⟩ := Z4 h13
   rcases oif h13 with ⟨h20, h13⟩ | ⟨h20, h13⟩
   ·refine Wc.s2 [{}, {}, {}, {}, rF, {}, {}, {}, {}, {}, rF, {}, {}, {}, {}, {}, rT] [0, 3, 31] [] (oC h15 (oC (cb h16) (oC h17 (oC (cb h18) (oC h19 (oC (cb h20) AllP.nil)))))) ?_
    refine Wc.cT rfl ?_
    exact (Zk h13).elim
   obtain ⟨h21, h13⟩ := Z4 h13
   refine Wc.s2 [{}, {}, {}, {}, rF, {}, {}, {}, {}, {}, rF, {}, {}, {}, {}, {}, rF] [0, 3, 31] [] (oC h15 (oC (cb h16) (oC h17 (oC (cb h18) (oC h19 (oC (cb h20) (oC h21 AllP.nil))))))) ?_
   refine Wc.ci h13 (fun _ h13 => ?_) (fun _ h13 => ?_)
   ·exact (Zk h13).elim
   refine Wc.ks [0, 3] [] ?_
   refine Wc.k0 [0, 3] [] ?_
   exact ⟨_, Nat.lt_succ_self _, _, stB h13⟩
  refine Wc.ke [0] [] ?_
  cases h13; exact ⟨rfl, by kernel_rfl⟩
 rintro st ⟨rfl, rfl⟩
 obtain ⟨u0c, h23, h⟩ := oc h fun _ => Zec
 refine Wc.s2 [{}, {}, hC h23] [2] [] (o1 h23) ?_
 cases h; exact Wc.ret dn

def Zja (k : Nat) (u9 : Gt) : Option Bool :=
 if (u9.gi == 1) = true then
  (Zap k u9.gj 0 99999).bind fun u37 =>
  if u37 = true then
   if (sEq u9.gn (bs [])) = true then
    some ((u9.ga.length : Int) == 0)
   else
    some false
  else
   some false
 else
  if (u9.gi == 2) = true then
   (Ze4 k u9.gn).bind fun u0c =>
   if u0c = true then
    if (u9.gj == 0) = true then
     some ((u9.ga.length : Int) == 0)
    else
     some false
   else
    some false
  else
   if (u9.gi == 3) = true then
    (Zap k u9.gj (-999999999) 999999999).bind fun u1a =>
    if u1a = true then
     if (sEq u9.gn (bs [])) = true then
      some ((u9.ga.length : Int) == 0)
     else
      some false
    else
     some false
   else
    if (u9.gi == 4) = true then
     (Ze4 k u9.gn).bind fun u1b =>
     if u1b = true then
      if (u9.gj == 0) = true then
       (Zap k (u9.ga.length : Int) 1 5).bind fun u0d =>
       some u0d
      else
       some false
     else
      some false
    else
     none
theorem Zwo {k : Nat} {u9 : Gt} {r : Bool} (h : Zja k u9 = some r) : FnO Tryz.prog 139 [.v (.agg (Gt.q u9)) []] (.v (.bool r) []) [] := by
 refine FnO.o2 Tryz.func139 rfl fun _ _ _ _ _ _ => ?_
 unfold Zja at h
 refine Wc.s0 [1] [1] ?_
 apply Wc.seq
 refine Wc.s0 [1, 4] [1] ?_
 apply Wc.block
 refine Wc.s0 [1, 4, 5] [1] ?_
 refine Wc.ci h (fun _ h => ?_) (fun _ h => ?_)
 ·obtain ⟨u37, h9, h⟩ := oc h fun _ => Zec
  rcases oif h with ⟨h10, h⟩ | ⟨h10, h⟩
  ·rcases oif h with ⟨h11, h⟩ | ⟨h11, h⟩
   ·refine Wc.s2 [{}, {}, hC h9, rT, {}, {}, {}, {}, rT, {}, {}, hL u9.ga] [2] [] (o4 h9 (cb h10) (cb h11) (Z2 Gt.c u9.ga)) ?_
    cases h; exact Wc.ret dn
   refine Wc.s2 [{}, {}, hC h9, rT, {}, {}, {}, {}, rF] [2] [] (o3 h9 (cb h10) (cb h11)) ?_
   cases h; exact Wc.ret dn
  refine Wc.s2 [{}, {}, hC h9, rF] [2] [] (o2 h9 (cb h10)) ?_
  cases h; exact Wc.ret dn
 refine Wc.s0 [1, 4, 21] [1] ?_
 refine Wc.ci h (fun _ h => ?_) (fun _ h => ?_)
 ·obtain ⟨u0c, h14, h⟩ := oc h fun _ => Zm7
  rcases oif h with ⟨h15, h⟩ | ⟨h15, h⟩
  ·rcases oif h with ⟨h16, h⟩ | ⟨h16, h⟩
   ·refine Wc.s2 [{}, {}, hC h14, rT, {}, {}, {}, {}, rT, {}, {}, hL u9.ga] [2] [] (o4 h14 (cb h15) (cb h16) (Z2 Gt.c u9.ga)) ?_
    cases h; exact Wc.ret dn
   refine Wc.s2 [{}, {}, hC h14, rT, {}, {}, {}, {}, rF] [2] [] (o3 h14 (cb h15) (cb h16)) ?_
   cases h; exact Wc.ret dn
  refine Wc.s2 [{}, {}, hC h14, rF] [2] [] (o2 h14 (cb h15)) ?_
  cases h; exact Wc.ret dn
 refine Wc.s0 [1, 4, 37] [1] ?_
 refine Wc.ci h (fun _ h => ?_) (fun _ h => ?_)
 ·obtain ⟨u1a, h19, h⟩ := oc h fun _ => Zec
  rcases oif h with ⟨h20, h⟩ | ⟨h20, h⟩
  ·rcases oif h with ⟨h21, h⟩ | ⟨h21, h⟩
   ·refine Wc.s2 [{}, {}, hC h19, rT, {}, {}, {}, {}, rT, {}, {}, hL u9.ga] [2] [] (o4 h19 (cb h20) (cb h21) (Z2 Gt.c u9.ga)) ?_
    cases h; exact Wc.ret dn
   refine Wc.s2 [{}, {}, hC h19, rT, {}, {}, {}, {}, rF] [2] [] (o3 h19 (cb h20) (cb h21)) ?_
   cases h; exact Wc.ret dn
  refine Wc.s2 [{}, {}, hC h19, rF] [2] [] (o2 h19 (cb h20)) ?_
  cases h; exact Wc.ret dn
 refine Wc.s0 [1, 53] [1] ?_
 refine Wc.ci h (fun _ h => ?_) (fun _ h => ?_)
 ·obtain ⟨u1b, h24, h⟩ := oc h fun _ => Zm7
  rcases oif h with ⟨h25, h⟩ | ⟨h25, h⟩
  ·rcases oif h with ⟨h26, h⟩ | ⟨h26, h⟩
   ·obtain ⟨u0d, h27, h⟩ := oc h fun _ => Zec
    refine Wc.s2 [{}, {}, hC h24, rT, {}, {}, {}, {}, rT, {}, {}, hL u9.ga, hC h27] [2] [] (oC h24 (oC (cb h25) (oC (cb h26) (oC (Z2 Gt.c u9.ga) (oC h27 AllP.nil))))) ?_
    cases h; exact Wc.ret dn
   refine Wc.s2 [{}, {}, hC h24, rT, {}, {}, {}, {}, rF] [2] [] (o3 h24 (cb h25) (cb h26)) ?_
   cases h; exact Wc.ret dn
  refine Wc.s2 [{}, {}, hC h24, rF] [2] [] (o2 h24 (cb h25)) ?_
  cases h; exact Wc.ret dn
 refine Wc.ks [] [] ?_
 exact (Zk h).elim

def Zb3 (k : Nat) (Zej : Gt → Int → Option Int) (ut : Gt) : Nat → Int → Int → Option (Out Int Int)
 | 0, _, _ => none
 | m + 1, ud, uo =>
  if (decide (uo < (ut.ga.length : Int))) = true then
   if (decide (ud ≥ 0)) = true then
    (at' ut.ga uo).bind fun uz =>
    (Zej uz ud).bind fun uy =>
    Zb3 k Zej ut m uy (wr.i64 (uo + 1))
   else
    some (.done ud)
  else
   some (.done ud)
mutual
def Z70 : Nat → Gt → Int → Option Int
 | 0, _, _ => none
 | k + 1, ut, vd =>
  (Zb3 k (Z70 k) ut k (wr.i64 (vd - 1)) 0).bind fun out1 => match out1 with
  | .ret r => some r
  | .done um =>
   some um
end
theorem Zkr : ∀ k : Nat, (∀ {ut : Gt} {vd : Int} {r : Int}, Z70 k ut vd = some r → FnO Tryz.prog 109 [.v (.agg (Gt.q ut)) [], .v (aI vd) []] (.v (aI r) []) []) := by
 intro k
 induction k with
 | zero =>
  ·intro ut vd r h
   exact (Zk (by rw [Z70] at h; exact h)).elim
 | succ k ih =>
  have Zl0 := @ih
  ·intro ut vd r h
   rw [Z70] at h
   refine FnO.o2 Tryz.func109 rfl fun _ _ _ _ _ _ => ?_
   refine Wc.s0 [1, 2] [2] ?_
   refine Wc.s0 [1, 2] [2] ?_
   apply Wc.seq
   refine Wc.s0 [1, 2, 5] [2] ?_
   obtain ⟨out1, h7, h⟩ := Z2d h
   refine Wc.lastJ (fun st => ∃ (um : Int), out1 = .done um ∧ st = ⟨[tI 1 um], [], []⟩) ?_ ?_
   ·apply Wc.block
    refine Wc.loop (fun m st => ∃ (ud : Int) (uo : Int), st = ⟨[tI 1 ud, tP 2 2, tI 5 uo], [bC 2 (Gt.q ut)], []⟩ ∧ Zb3 k (Z70 k) ut m ud uo = some out1) ?_ k ⟨_, _, stB h7⟩
    rintro m st ⟨ud, uo, rfl, h7⟩
    rcases m with _ | m
    ·exact (Zk h7).elim
    apply Wc.seq
    rcases oif h7 with ⟨h8, h7⟩ | ⟨h8, h7⟩
    ·refine Wc.s2 [{}, {}, {}, hL ut.ga, {}, rT] [1, 2, 5, 16] [2] (o2 (Z2 Gt.c ut.ga) (cb h8)) ?_
     refine Wc.ci h7 (fun _ h7 => ?_) (fun _ h7 => ?_)
     ·refine Wc.ks [1, 2, 5] [2] ?_
      apply Wc.seq
      apply Wc.block
      obtain ⟨uz, h10, h7⟩ := oc h7 fun uz h10 => (Z11 (c := Gt.c) (Gt.c_eq uz) Gt.c_len h10)
      obtain ⟨uy, h11, h7⟩ := oc h7 fun _ => Zl0
      refine Wc.k2 [{}, {}, {}, hE h10, {}, {}, hC h11] [1, 2, 5] [2] (o3 h10 (lenE h10 4) h11) ?_
      refine Wc.k0 [1, 2, 5] [2] ?_
      exact ⟨_, Nat.lt_succ_self _, _, _, stB h7⟩
     refine Wc.ke [1] [] ?_
     cases h7; exact ⟨_, rfl, by kernel_rfl⟩
    refine Wc.s2 [{}, {}, {}, hL ut.ga, {}, rF] [1, 2, 5, 16] [2] (o2 (Z2 Gt.c ut.ga) (cb h8)) ?_
    refine Wc.cF rfl ?_
    refine Wc.ke [1] [] ?_
    cases h7; exact ⟨_, rfl, by kernel_rfl⟩
   rintro st ⟨um, rfl, rfl⟩
   refine Wc.s0 [4] [] ?_
   cases h; exact Wc.ret dn
theorem Zr9 {k : Nat} {ut : Gt} {vd : Int} {r : Int} (h : Z70 k ut vd = some r) : FnO Tryz.prog 109 [.v (.agg (Gt.q ut)) [], .v (aI vd) []] (.v (aI r) []) [] := (Zkr k) h

def Zb2 (k : Nat) (Zei : Gt → Int → Option Bool) (u9 : Gt) (ud : Int) : Nat → Int → Option (Out Bool Unit)
 | 0, _ => none
 | m + 1, um =>
  if (decide (um < (u9.ga.length : Int))) = true then
   (at' u9.ga um).bind fun uz =>
   (Zei uz (wr.i64 (ud + 1))).bind fun u0d =>
   if (!u0d) = true then
    none
   else
    Zb2 k Zei u9 ud m (wr.i64 (um + 1))
  else
   some (.done ())
mutual
def Z6z : Nat → Gt → Int → Option Bool
 | 0, _, _ => none
 | k + 1, u9, ud =>
  if (decide (ud > 40)) = true then
   none
  else
   (Zja k u9).bind fun u0c =>
   if (!u0c) = true then
    none
   else
    (Zb2 k (Z6z k) u9 ud k 0).bind fun out1 => match out1 with
    | .ret r => some r
    | .done () =>
     some true
end
theorem Zkq : ∀ k : Nat, (∀ {u9 : Gt} {ud : Int} {r : Bool}, Z6z k u9 ud = some r → FnO Tryz.prog 110 [.v (.agg (Gt.q u9)) [], .v (aI ud) []] (.v (.bool r) []) []) := by
 intro k
 induction k with
 | zero =>
  ·intro u9 ud r h
   exact (Zk (by rw [Z6z] at h; exact h)).elim
 | succ k ih =>
  have Zkz := @ih
  ·intro u9 ud r h
   rw [Z6z] at h
   refine FnO.o2 Tryz.func110 rfl fun _ _ _ _ _ _ => ?_
   refine Wc.s0 [1, 2] [2] ?_
   apply Wc.seq
   rcases oif h with ⟨h9, h⟩ | ⟨h9, h⟩
   ·refine Wc.s2 [{}, {}, rT] [1, 2, 12] [2] (o1 (cb h9)) ?_
    refine Wc.cT rfl ?_
    exact (Zk h).elim
   obtain ⟨u0c, h10, h⟩ := oc h fun _ => Zwo
   refine Wc.s2 [{}, {}, rF, {}, hC h10] [1, 2, 12] [2] (o2 (cb h9) h10) ?_
   refine Wc.ci h (fun _ h => ?_) (fun _ h => ?_)
   ·exact (Zk h).elim
   refine Wc.ks [1, 2] [2] ?_
   apply Wc.seq
   refine Wc.s0 [1, 2, 5] [2] ?_
   obtain ⟨out1, h13, h⟩ := Z2d h
   refine Wc.lastJ (fun st => out1 = .done () ∧ st = ⟨[], [], []⟩) ?_ ?_
   ·apply Wc.block
    refine Wc.loop (fun m st => ∃ (um : Int), st = ⟨[tI 1 ud, tP 2 2, tI 5 um], [bC 2 (Gt.q u9)], []⟩ ∧ Zb2 k (Z6z k) u9 ud m um = some out1) ?_ k ⟨_, stB h13⟩
    rintro m st ⟨um, rfl, h13⟩
    rcases m with _ | m
    ·exact (Zk h13).elim
    apply Wc.seq
    refine Wc.s2 [{}, {}, {}, hL u9.ga] [1, 2, 5, 17] [2] (o1 (Z2 Gt.c u9.ga)) ?_
    refine Wc.ci h13 (fun _ h13 => ?_) (fun _ h13 => ?_)
    ·refine Wc.ks [1, 2, 5] [2] ?_
     apply Wc.seq
     apply Wc.block
     obtain ⟨uz, h15, h13⟩ := oc h13 fun uz h15 => (Z11 (c := Gt.c) (Gt.c_eq uz) Gt.c_len h15)
     obtain ⟨u0d, h16, h13⟩ := oc h13 fun _ => Zkz
     refine Wc.s2 [{}, {}, {}, hE h15, {}, {}, {}, hC h16] [1, 2, 5, 28] [2] (o3 h15 (lenE h15 4) h16) ?_
     refine Wc.ci h13 (fun _ h13 => ?_) (fun _ h13 => ?_)
     ·exact (Zk h13).elim
     refine Wc.ks [1, 2, 5] [2] ?_
     refine Wc.k0 [1, 2, 5] [2] ?_
     exact ⟨_, Nat.lt_succ_self _, _, stB h13⟩
    refine Wc.ke [] [] ?_
    cases h13; exact ⟨rfl, by kernel_rfl⟩
   rintro st ⟨rfl, rfl⟩
   refine Wc.s0 [4] [] ?_
   cases h; exact Wc.ret dn
theorem Zr8 {k : Nat} {u9 : Gt} {ud : Int} {r : Bool} (h : Z6z k u9 ud = some r) : FnO Tryz.prog 110 [.v (.agg (Gt.q u9)) [], .v (aI ud) []] (.v (.bool r) []) [] := (Zkq k) h

def Zdc (k : Nat) (uo : Int) : Option Int :=
 if (decide (uo < 10)) = true then
  some (wr.u8 (wr.i64 (48 + uo)))
 else
  none
theorem Zpm {k : Nat} {uo : Int} {r : Int} (h : Zdc k uo = some r) : FnO Tryz.prog 152 [.v (aI uo) []] (.v (.int .u8 r) []) [] := by
 refine FnO.o2 Tryz.func152 rfl fun _ _ _ _ _ _ => ?_
 unfold Zdc at h
 refine Wc.s0 [0] [] ?_
 apply Wc.seq
 refine Wc.s0 [0, 4] [] ?_
 refine Wc.ci h (fun _ h => ?_) (fun _ h => ?_)
 ·refine Wc.s0 [2] [] ?_
  cases h; exact Wc.ret dn
 refine Wc.ks [] [] ?_
 exact (Zk h).elim

def Zcd (k : Nat) : Nat → Int → ByteArray → Option (Out ByteArray ByteArray)
 | 0, _, _ => none
 | m + 1, vd, zp =>
  if (vd != 0) = true then
   if (10 : Int) ≠ 0 then
    if (decide ((Int.tmod vd 10) < 0)) = true then
     none
    else
     (Zdc k (Int.tmod vd 10)).bind fun um =>
     if Z36 (strOfNums [um]) zp then
      if (10 : Int) ≠ 0 then
       Zcd k m (wr.i64 (Int.tdiv vd 10)) ((strOfNums [um]) ++ zp)
      else none
     else none
   else none
  else
   some (.done zp)
def Zgp (k : Nat) (z0 : Int) : Option ByteArray :=
 if (z0 == 0) = true then
  some (bs [48])
 else
  (Zcd k k z0 (bs [])).bind fun out1 => match out1 with
  | .ret r => some r
  | .done zs =>
   if (decide (z0 < 0)) = true then
    none
   else
    some zs
theorem Ztz {k : Nat} {z0 : Int} {r : ByteArray} (h : Zgp k z0 = some r) : FnO Tryz.prog 140 [.v (aI z0) []] (.v (.str r) []) [] := by
 refine FnO.o2 Tryz.func140 rfl fun _ _ _ _ _ _ => ?_
 unfold Zgp at h
 refine Wc.s0 [0] [] ?_
 apply Wc.seq
 refine Wc.s0 [0, 7] [] ?_
 refine Wc.ci h (fun _ h => ?_) (fun _ h => ?_)
 ·refine Wc.s0 [2] [] ?_
  cases h; exact Wc.ret dn
 refine Wc.ks [0] [] ?_
 refine Wc.s0 [0, 3] [] ?_
 refine Wc.s0 [0, 3, 4] [] ?_
 obtain ⟨out1, h9, h⟩ := Z2d h
 refine Wc.seqJ (fun st => ∃ (zs : ByteArray), out1 = .done zs ∧ st = ⟨[tB 3 (decide (z0 < 0)), tS 4 zs], [], []⟩) ?_ ?_
 ·apply Wc.block
  refine Wc.loop (fun m st => ∃ (vd : Int) (zp : ByteArray), st = ⟨[tI 0 vd, tB 3 (decide (z0 < 0)), tS 4 zp], [], []⟩ ∧ Zcd k m vd zp = some out1) ?_ k ⟨_, _, stB h9⟩
  rintro m st ⟨vd, zp, rfl, h9⟩
  rcases m with _ | m
  ·exact (Zk h9).elim
  apply Wc.seq
  refine Wc.s0 [0, 3, 4, 11] [] ?_
  refine Wc.ci h9 (fun _ h9 => ?_) (fun _ h9 => ?_)
  ·refine Wc.ks [0, 3, 4] [] ?_
   apply Wc.block
   obtain ⟨h11, h9⟩ := Z4 h9
   refine Wc.s2 [] [0, 3, 4, 5] [] (o1 h11) ?_
   apply Wc.seq
   refine Wc.s0 [0, 3, 4, 5, 15] [] ?_
   refine Wc.ci h9 (fun _ h9 => ?_) (fun _ h9 => ?_)
   ·exact (Zk h9).elim
   refine Wc.ks [0, 3, 4, 5] [] ?_
   obtain ⟨um, h13, h9⟩ := oc h9 fun _ => Zpm
   have h14 := (cR cI.u8 [um])
   obtain ⟨h15, h9⟩ := Z4 h9
   refine Wc.s2 [{}, hC h13, hB h14, { v := some (.str (strOfNums [um])) }] [0, 3, 4] [] (o4 h13 h14 (Zwt [um]) h15) ?_
   obtain ⟨h17, h9⟩ := Z4 h9
   refine Wc.k2 [] [0, 3, 4] [] (o1 h17) ?_
   exact ⟨_, Nat.lt_succ_self _, _, _, stB h9⟩
  refine Wc.ke [3, 4] [] ?_
  cases h9; exact ⟨_, rfl, by kernel_rfl⟩
 rintro st ⟨zs, rfl, rfl⟩
 apply Wc.seq
 refine Wc.s0 [4, 26] [] ?_
 refine Wc.ci h (fun _ h => ?_) (fun _ h => ?_)
 ·exact (Zk h).elim
 refine Wc.ks [4] [] ?_
 refine Wc.s0 [2] [] ?_
 cases h; exact Wc.ret dn

def Zde (k : Nat) (ut : Gt) : Option ByteArray :=
 if Z36 ut.gn (bs [47]) then
  (Zgp k (ut.ga.length : Int)).bind fun ue =>
  if Z36 (ut.gn ++ (bs [47])) ue then
   some ((ut.gn ++ (bs [47])) ++ ue)
  else none
 else none
def Zjc (k : Nat) (ut : Gt) : Option ByteArray :=
 if (ut.gi != 2) = true then
  if (ut.gi != 4) = true then
   none
  else
   Zde k ut
 else
  Zde k ut
theorem Zwq {k : Nat} {ut : Gt} {r : ByteArray} (h : Zjc k ut = some r) : FnO Tryz.prog 111 [.v (.agg (Gt.q ut)) []] (.v (.str r) []) [] := by
 refine FnO.o2 Tryz.func111 rfl fun _ _ _ _ _ _ => ?_
 unfold Zjc at h
 refine Wc.s0 [1] [1] ?_
 refine Wc.seqJ (fun st => st = ⟨[tP 1 1], [bC 1 (Gt.q ut)], []⟩ ∧ Zde k ut = some r) ?_ ?_
 ·rcases oif h with ⟨h11, h⟩ | ⟨h11, h⟩
  ·refine Wc.s2 [{}, {}, {}, rT] [1, 10] [1] (o1 (cb h11)) ?_
   refine Wc.ci h (fun _ h => ?_) (fun _ h => ?_)
   ·exact (Zk h).elim
   refine Wc.ks [1] [1] ?_
   exact stB h
  refine Wc.s2 [{}, {}, {}, rF] [1, 10] [1] (o1 (cb h11)) ?_
  refine Wc.cF rfl ?_
  refine Wc.ks [1] [1] ?_
  exact stB h
 rintro st ⟨rfl, h⟩
 apply Wc.seq
 obtain ⟨h7, h⟩ := Z4 h
 obtain ⟨ue, h8, h⟩ := oc h fun _ => Ztz
 obtain ⟨h9, h⟩ := Z4 h
 refine Wc.dk hmix [{}, {}, {}, {}, {}, hL ut.ga, hC h8] [] [2] [] [] (o4 h7 (Z2 Gt.c ut.ga) h8 h9) ?_
 cases h; exact Wc.ret dn

def Z2c (k : Nat) (ue : ByteArray) (u37 : Bool) : Option Bool :=
 if u37 = true then
  none
 else
  if (sEq ue (bs [61, 47, 50])) = true then
   if (sEq ue (bs [61, 47, 50])) = true then
    none
   else
    some false
  else
   if (sEq ue (bs [92, 61, 47, 50])) = true then
    if (sEq ue (bs [92, 61, 47, 50])) = true then
     none
    else
     some false
   else
    if (sEq ue (bs [61, 61, 47, 50])) = true then
     if (sEq ue (bs [61, 61, 47, 50])) = true then
      none
     else
      some false
    else
     if (sEq ue (bs [105, 115, 47, 50])) = true then
      if (sEq ue (bs [105, 115, 47, 50])) = true then
       none
      else
       some false
     else
      if (sEq ue (bs [60, 47, 50])) = true then
       if (sEq ue (bs [60, 47, 50])) = true then
        none
       else
        some false
      else
       if (sEq ue (bs [61, 58, 61, 47, 50])) = true then
        if (sEq ue (bs [61, 58, 61, 47, 50])) = true then
         none
        else
         some false
       else
        if (sEq ue (bs [118, 97, 114, 47, 49])) = true then
         if (sEq ue (bs [118, 97, 114, 47, 49])) = true then
          none
         else
          some false
        else
         if (sEq ue (bs [97, 116, 111, 109, 47, 49])) = true then
          if (sEq ue (bs [97, 116, 111, 109, 47, 49])) = true then
           none
          else
           some false
         else
          if (sEq ue (bs [119, 114, 105, 116, 101, 47, 49])) = true then
           if (sEq ue (bs [119, 114, 105, 116, 101, 47, 49])) = true then
            none
           else
            some false
          else
           if (sEq ue (bs [97, 115, 115, 101, 114, 116, 122, 47, 49])) = true then
            if (sEq ue (bs [97, 115, 115, 101, 114, 116, 122, 47, 49])) = true then
             none
            else
             some false
           else
            if (sEq ue (bs [114, 101, 116, 114, 97, 99, 116, 47, 49])) = true then
             if (sEq ue (bs [114, 101, 116, 114, 97, 99, 116, 47, 49])) = true then
              none
             else
              some false
            else
             if (sEq ue (bs [58, 45, 47, 50])) = true then
              if (sEq ue (bs [58, 45, 47, 50])) = true then
               none
              else
               some false
             else
              if (sEq ue (bs [58, 45, 47, 49])) = true then
               if (sEq ue (bs [58, 45, 47, 49])) = true then
                none
               else
                some false
              else
               if (sEq ue (bs [45, 45, 62, 47, 50])) = true then
                none
               else
                some false
def Zgr (k : Nat) (ue : ByteArray) : Option Bool :=
 if (sEq ue (bs [116, 114, 117, 101, 47, 48])) = true then
  Z2c k ue (sEq ue (bs [116, 114, 117, 101, 47, 48]))
 else
  if (sEq ue (bs [102, 97, 105, 108, 47, 48])) = true then
   Z2c k ue (sEq ue (bs [102, 97, 105, 108, 47, 48]))
  else
   if (sEq ue (bs [33, 47, 48])) = true then
    Z2c k ue (sEq ue (bs [33, 47, 48]))
   else
    if (sEq ue (bs [44, 47, 50])) = true then
     Z2c k ue (sEq ue (bs [44, 47, 50]))
    else
     if (sEq ue (bs [59, 47, 50])) = true then
      Z2c k ue (sEq ue (bs [59, 47, 50]))
     else
      if (sEq ue (bs [45, 62, 47, 50])) = true then
       Z2c k ue (sEq ue (bs [45, 62, 47, 50]))
      else
       if (sEq ue (bs [92, 43, 47, 49])) = true then
        Z2c k ue (sEq ue (bs [92, 43, 47, 49]))
       else
        if (sEq ue (bs [99, 97, 108, 108, 47, 49])) = true then
         Z2c k ue (sEq ue (bs [99, 97, 108, 108, 47, 49]))
        else
         if (sEq ue (bs [99, 97, 108, 108, 47, 50])) = true then
          Z2c k ue (sEq ue (bs [99, 97, 108, 108, 47, 50]))
         else
          if (sEq ue (bs [99, 97, 108, 108, 47, 51])) = true then
           Z2c k ue (sEq ue (bs [99, 97, 108, 108, 47, 51]))
          else
           if (sEq ue (bs [99, 97, 116, 99, 104, 47, 51])) = true then
            Z2c k ue (sEq ue (bs [99, 97, 116, 99, 104, 47, 51]))
           else
            Z2c k ue (sEq ue (bs [116, 104, 114, 111, 119, 47, 49]))
theorem Zu0 {k : Nat} {ue : ByteArray} {r : Bool} (h : Zgr k ue = some r) : FnO Tryz.prog 112 [.v (.str ue) []] (.v (.bool r) []) [] := by
 refine FnO.o2 Tryz.func112 rfl fun _ _ _ _ _ _ => ?_
 unfold Zgr at h
 refine Wc.s0 [0] [] ?_
 apply Wc.seq
 refine Wc.s0 [3] [] ?_
 apply Wc.block
 refine Wc.seqJ (fun st => ∃ (u37 : Bool), st = ⟨[tS 3 ue, tB 4 u37], [], []⟩ ∧ Z2c k ue u37 = some r) ?_ ?_
 ·refine Wc.s0 [3, 4] [] ?_
  refine Wc.ci h (fun _ h => ?_) (fun _ h => ?_)
  ·apply Wc.skip
   exact ⟨_, stB h⟩
  refine Wc.s0 [3, 4] [] ?_
  refine Wc.ci h (fun _ h => ?_) (fun _ h => ?_)
  ·apply Wc.skip
   exact ⟨_, stB h⟩
  refine Wc.s0 [3, 4] [] ?_
  refine Wc.ci h (fun _ h => ?_) (fun _ h => ?_)
  ·apply Wc.skip
   exact ⟨_, stB h⟩
  refine Wc.s0 [3, 4] [] ?_
  refine Wc.ci h (fun _ h => ?_) (fun _ h => ?_)
  ·apply Wc.skip
   exact ⟨_, stB h⟩
  refine Wc.s0 [3, 4] [] ?_
  refine Wc.ci h (fun _ h => ?_) (fun _ h => ?_)
  ·apply Wc.skip
   exact ⟨_, stB h⟩
  refine Wc.s0 [3, 4] [] ?_
  refine Wc.ci h (fun _ h => ?_) (fun _ h => ?_)
  ·apply Wc.skip
   exact ⟨_, stB h⟩
  refine Wc.s0 [3, 4] [] ?_
  refine Wc.ci h (fun _ h => ?_) (fun _ h => ?_)
  ·apply Wc.skip
   exact ⟨_, stB h⟩
  refine Wc.s0 [3, 4] [] ?_
  refine Wc.ci h (fun _ h => ?_) (fun _ h => ?_)
  ·apply Wc.skip
   exact ⟨_, stB h⟩
  refine Wc.s0 [3, 4] [] ?_
  refine Wc.ci h (fun _ h => ?_) (fun _ h => ?_)
  ·apply Wc.skip
   exact ⟨_, stB h⟩
  refine Wc.s0 [3, 4] [] ?_
  refine Wc.ci h (fun _ h => ?_) (fun _ h => ?_)
  ·apply Wc.skip
   exact ⟨_, stB h⟩
  refine Wc.s0 [3, 4] [] ?_
  refine Wc.ci h (fun _ h => ?_) (fun _ h => ?_)
  ·apply Wc.skip
   exact ⟨_, stB h⟩
  refine Wc.k0 [3, 4] [] ?_
  exact ⟨_, stB h⟩
 rintro st ⟨u37, rfl, h⟩
 refine Wc.ci h (fun _ h => ?_) (fun _ h => ?_)
 ·exact (Zk h).elim
 apply Wc.seq
 refine Wc.s0 [3, 17] [] ?_
 refine Wc.ci h (fun _ h => ?_) (fun _ h => ?_)
 ·refine Wc.ks [17] [] ?_
  refine Wc.ci h (fun _ h => ?_) (fun _ h => ?_)
  ·exact (Zk h).elim
  refine Wc.ks [] [] ?_
  refine Wc.s0 [2] [] ?_
  cases h; exact Wc.ret dn
 refine Wc.s0 [3, 17] [] ?_
 refine Wc.ci h (fun _ h => ?_) (fun _ h => ?_)
 ·refine Wc.ks [17] [] ?_
  refine Wc.ci h (fun _ h => ?_) (fun _ h => ?_)
  ·exact (Zk h).elim
  refine Wc.ks [] [] ?_
  refine Wc.s0 [2] [] ?_
  cases h; exact Wc.ret dn
 refine Wc.s0 [3, 17] [] ?_
 refine Wc.ci h (fun _ h => ?_) (fun _ h => ?_)
 ·refine Wc.ks [17] [] ?_
  refine Wc.ci h (fun _ h => ?_) (fun _ h => ?_)
  ·exact (Zk h).elim
  refine Wc.ks [] [] ?_
  refine Wc.s0 [2] [] ?_
  cases h; exact Wc.ret dn
 refine Wc.s0 [3, 17] [] ?_
 refine Wc.ci h (fun _ h => ?_) (fun _ h => ?_)
 ·refine Wc.ks [17] [] ?_
  refine Wc.ci h (fun _ h => ?_) (fun _ h => ?_)
  ·exact (Zk h).elim
  refine Wc.ks [] [] ?_
  refine Wc.s0 [2] [] ?_
  cases h; exact Wc.ret dn
 refine Wc.s0 [3, 17] [] ?_
 refine Wc.ci h (fun _ h => ?_) (fun _ h => ?_)
 ·refine Wc.ks [17] [] ?_
  refine Wc.ci h (fun _ h => ?_) (fun _ h => ?_)
  ·exact (Zk h).elim
  refine Wc.ks [] [] ?_
  refine Wc.s0 [2] [] ?_
  cases h; exact Wc.ret dn
 refine Wc.s0 [3, 17] [] ?_
 refine Wc.ci h (fun _ h => ?_) (fun _ h => ?_)
 ·refine Wc.ks [17] [] ?_
  refine Wc.ci h (fun _ h => ?_) (fun _ h => ?_)
  ·exact (Zk h).elim
  refine Wc.ks [] [] ?_
  refine Wc.s0 [2] [] ?_
  cases h; exact Wc.ret dn
 refine Wc.s0 [3, 17] [] ?_
 refine Wc.ci h (fun _ h => ?_) (fun _ h => ?_)
 ·refine Wc.ks [17] [] ?_
  refine Wc.ci h (fun _ h => ?_) (fun _ h => ?_)
  ·exact (Zk h).elim
  refine Wc.ks [] [] ?_
  refine Wc.s0 [2] [] ?_
  cases h; exact Wc.ret dn
 refine Wc.s0 [3, 17] [] ?_
 refine Wc.ci h (fun _ h => ?_) (fun _ h => ?_)
 ·refine Wc.ks [17] [] ?_
  refine Wc.ci h (fun _ h => ?_) (fun _ h => ?_)
  ·exact (Zk h).elim
  refine Wc.ks [] [] ?_
  refine Wc.s0 [2] [] ?_
  cases h; exact Wc.ret dn
 refine Wc.s0 [3, 17] [] ?_
 refine Wc.ci h (fun _ h => ?_) (fun _ h => ?_)
 ·refine Wc.ks [17] [] ?_
  refine Wc.ci h (fun _ h => ?_) (fun _ h => ?_)
  ·exact (Zk h).elim
  refine Wc.ks [] [] ?_
  refine Wc.s0 [2] [] ?_
  cases h; exact Wc.ret dn
 refine Wc.s0 [3, 17] [] ?_
 refine Wc.ci h (fun _ h => ?_) (fun _ h => ?_)
 ·refine Wc.ks [17] [] ?_
  refine Wc.ci h (fun _ h => ?_) (fun _ h => ?_)
  ·exact (Zk h).elim
  refine Wc.ks [] [] ?_
  refine Wc.s0 [2] [] ?_
  cases h; exact Wc.ret dn
 refine Wc.s0 [3, 17] [] ?_
 refine Wc.ci h (fun _ h => ?_) (fun _ h => ?_)
 ·refine Wc.ks [17] [] ?_
  refine Wc.ci h (fun _ h => ?_) (fun _ h => ?_)
  ·exact (Zk h).elim
  refine Wc.ks [] [] ?_
  refine Wc.s0 [2] [] ?_
  cases h; exact Wc.ret dn
 refine Wc.s0 [3, 17] [] ?_
 refine Wc.ci h (fun _ h => ?_) (fun _ h => ?_)
 ·refine Wc.ks [17] [] ?_
  refine Wc.ci h (fun _ h => ?_) (fun _ h => ?_)
  ·exact (Zk h).elim
  refine Wc.ks [] [] ?_
  refine Wc.s0 [2] [] ?_
  cases h; exact Wc.ret dn
 refine Wc.s0 [3, 17] [] ?_
 refine Wc.ci h (fun _ h => ?_) (fun _ h => ?_)
 ·refine Wc.ks [17] [] ?_
  refine Wc.ci h (fun _ h => ?_) (fun _ h => ?_)
  ·exact (Zk h).elim
  refine Wc.ks [] [] ?_
  refine Wc.s0 [2] [] ?_
  cases h; exact Wc.ret dn
 refine Wc.k0 [17] [] ?_
 refine Wc.ci h (fun _ h => ?_) (fun _ h => ?_)
 ·exact (Zk h).elim
 refine Wc.ks [] [] ?_
 refine Wc.s0 [2] [] ?_
 cases h; exact Wc.ret dn

def Z7l (k : Nat) (u9 : Gt) : Option Bool :=
 (Z70 k u9 400).bind fun ud =>
 if (decide (ud ≥ 0)) = true then
  (Z6z k u9 1).bind fun u0c =>
  some u0c
 else
  some false
theorem Zal {k : Nat} {u9 : Gt} {r : Bool} (h : Z7l k u9 = some r) : FnO Tryz.prog 73 [.v (.agg (Gt.q u9)) []] (.v (.bool r) []) [] := by
 refine FnO.o2 Tryz.func73 rfl fun _ _ _ _ _ _ => ?_
 unfold Z7l at h
 refine Wc.s0 [1] [1] ?_
 obtain ⟨ud, h7, h⟩ := oc h fun _ => Zr9
 rcases oif h with ⟨h8, h⟩ | ⟨h8, h⟩
 ·obtain ⟨u0c, h9, h⟩ := oc h fun _ => Zr8
  refine Wc.s2 [{}, hC h7, {}, rT, {}, hC h9] [2] [] (o3 h7 (cb h8) h9) ?_
  cases h; exact Wc.ret dn
 refine Wc.s2 [{}, hC h7, {}, rF] [2] [] (o2 h7 (cb h8)) ?_
 cases h; exact Wc.ret dn

def Z9p (k : Nat) (zs : ByteArray) : Option Gt :=
 some (Gt.mk 2 zs 0 [])
theorem Zeb {k : Nat} {zs : ByteArray} {r : Gt} (h : Z9p k zs = some r) : FnO Tryz.prog 32 [.v (.str zs) []] (.v (.agg (Gt.q r)) [(3, .app 31)]) [] := by
 refine FnO.o2 Tryz.func32 rfl fun _ _ _ _ _ _ => ?_
 unfold Z9p at h
 refine Wc.s0 [0, 2] [2] ?_
 refine Wc.s1 [{}, {}, hK [4]] [2] [2] ?_
 cases h; exact Wc.ret dn

def Zmq (k : Nat) (uh : Gt) (ug : ByteArray) (u7 : Int) : Option Bool :=
 if (uh.gi == 4) = true then
  if (sEq uh.gn ug) = true then
   some ((uh.ga.length : Int) == u7)
  else
   some false
 else
  some false
theorem Zyn {k : Nat} {uh : Gt} {ug : ByteArray} {u7 : Int} {r : Bool} (h : Zmq k uh ug u7 = some r) : FnO Tryz.prog 74 [.v (.agg (Gt.q uh)) [], .v (.str ug) [], .v (aI u7) []] (.v (.bool r) []) [] := by
 refine FnO.o2 Tryz.func74 rfl fun _ _ _ _ _ _ => ?_
 unfold Zmq at h
 refine Wc.s0 [1, 2, 3] [3] ?_
 rcases oif h with ⟨h12, h⟩ | ⟨h12, h⟩
 ·rcases oif h with ⟨h13, h⟩ | ⟨h13, h⟩
  ·refine Wc.s2 [{}, {}, {}, rT, {}, {}, {}, {}, {}, rT, {}, {}, hL uh.ga] [6] [] (o3 (cb h12) (cb h13) (Z2 Gt.c uh.ga)) ?_
   cases h; exact Wc.ret dn
  refine Wc.s2 [{}, {}, {}, rT, {}, {}, {}, {}, {}, rF] [6] [] (o2 (cb h12) (cb h13)) ?_
  cases h; exact Wc.ret dn
 refine Wc.s2 [{}, {}, {}, rF] [6] [] (o1 (cb h12)) ?_
 cases h; exact Wc.ret dn

def Ze2 (k : Nat) (ui : Gt) : Option Bool :=
 (Zjc k ui).bind fun u38 =>
 if (!(sEq u38 (bs []))) = true then
  (Zgr k u38).bind fun u0d =>
  some (!u0d)
 else
  some false
theorem Zm5 {k : Nat} {ui : Gt} {r : Bool} (h : Ze2 k ui = some r) : FnO Tryz.prog 75 [.v (.agg (Gt.q ui)) []] (.v (.bool r) []) [] := by
 refine FnO.o2 Tryz.func75 rfl fun _ _ _ _ _ _ => ?_
 unfold Ze2 at h
 refine Wc.s0 [1] [1] ?_
 obtain ⟨u38, h12, h⟩ := oc h fun _ => Zwq
 refine Wc.s2 [{}, hC h12] [3] [] (o1 h12) ?_
 rcases oif h with ⟨h14, h⟩ | ⟨h14, h⟩
 ·obtain ⟨u0d, h15, h⟩ := oc h fun _ => Zu0
  refine Wc.s2 [{}, {}, rT, {}, hC h15] [2] [] (o2 (cb h14) h15) ?_
  cases h; exact Wc.ret dn
 refine Wc.s2 [{}, {}, rF] [2] [] (o1 (cb h14)) ?_
 cases h; exact Wc.ret dn

def Zay (k : Nat) (Zfk : Gt → Option Gt) (Zkw : (List Gt) → Option (List Gt)) (u1c : List Gt) : Nat → (List Gt) → Int → Option (Out (List Gt) (List Gt))
 | 0, _, _ => none
 | m + 1, u4k, u2v =>
  if (decide (u2v < (u1c.length : Int))) = true then
   (at' u1c u2v).bind fun u2w =>
   (Zfk u2w).bind fun u1u =>
   if u4k.length + [u1u].length ≤ 1073741824 then
    Zay k Zfk Zkw u1c m (u4k ++ [u1u]) (wr.i64 (u2v + 1))
   else none
  else
   some (.done u4k)
mutual
def Z6e : Nat → Gt → Option Gt
 | 0, _ => none
 | k + 1, ve =>
  (Z81 k ve.ga).bind fun u99 =>
  some (Gt.mk ve.gi ve.gn ve.gj u99)
def Z81 : Nat → (List Gt) → Option (List Gt)
 | 0, _ => none
 | k + 1, u1c =>
  (Zay k (Z6e k) (Z81 k) u1c k [] 0).bind fun out1 => match out1 with
  | .ret r => some r
  | .done u5q =>
   some u5q
end
theorem Zl7 : ∀ k : Nat, (∀ {ve : Gt} {r : Gt}, Z6e k ve = some r → FnO Tryz.prog 50 [.v (.agg (Gt.q ve)) []] (.v (.agg (Gt.q r)) [(3, .app 31)]) []) ∧
  (∀ {u1c : List Gt} {r : (List Gt)}, Z81 k u1c = some r → FnO Tryz.prog 81 [.v (.sl (List.map Gt.c u1c)) []] (.v (.sl (List.map Gt.c r)) [(0, .app 31)]) []) := by
 intro k
 induction k with
 | zero =>
  refine ⟨?_, ?_⟩
  ·intro ve r h
   exact (Zk (by rw [Z6e] at h; exact h)).elim
  ·intro u1c r h
   exact (Zk (by rw [Z81] at h; exact h)).elim
 | succ k ih =>
  obtain ⟨Zn5, Zkx⟩ := ih
  refine ⟨?_, ?_⟩
  ·intro ve r h
   rw [Z6e] at h
   refine FnO.o2 Tryz.func50 rfl fun _ _ _ _ _ _ => ?_
   refine Wc.s0 [1, 2] [1, 2] ?_
   obtain ⟨u99, h31, h⟩ := oc h fun _ => Zkx
   refine Wc.s2 [{}, {}, hC h31, {}, hK [5]] [1, 2] [1, 2] (o1 h31) ?_
   refine Wc.s1 [hM 1, hK [7]] [2] [2] ?_
   cases h; exact Wc.ret dn
  ·intro u1c r h
   rw [Z81] at h
   refine FnO.o2 Tryz.func81 rfl fun _ _ _ _ _ _ => ?_
   refine Wc.s0 [0] [] ?_
   have h33 := (Z2s Gt.c)
   refine Wc.s2 [hB h33, hK [5]] [0, 3] [] (o1 h33) ?_
   apply Wc.seq
   refine Wc.s0 [0, 3, 4] [] ?_
   obtain ⟨out1, h34, h⟩ := Z2d h
   refine Wc.lastJ (fun st => ∃ (u5q : List Gt), out1 = .done u5q ∧ st = ⟨[(3, (.v (.sl (List.map Gt.c u5q)), [(0, .app 31)]))], [], []⟩) ?_ ?_
   ·apply Wc.block
    refine Wc.loop (fun m st => ∃ (u4k : List Gt) (u2v : Int), st = ⟨[tV 0 (.sl (List.map Gt.c u1c)), (3, (.v (.sl (List.map Gt.c u4k)), [(0, .app 31)])), tI 4 u2v], [], []⟩ ∧ Zay k (Z6e k) (Z81 k) u1c m u4k u2v = some out1) ?_ k ⟨_, _, stB h34⟩
    rintro m st ⟨u4k, u2v, rfl, h34⟩
    rcases m with _ | m
    ·exact (Zk h34).elim
    apply Wc.seq
    refine Wc.s2 [{}, {}, hL u1c] [0, 3, 4, 9] [] (o1 (Z2 Gt.c u1c)) ?_
    refine Wc.ci h34 (fun _ h34 => ?_) (fun _ h34 => ?_)
    ·refine Wc.ks [0, 3, 4] [] ?_
     apply Wc.seq
     apply Wc.block
     obtain ⟨u2w, h36, h34⟩ := oc h34 fun u2w h36 => (Z11 (c := Gt.c) (Gt.c_eq u2w) Gt.c_len h36)
     obtain ⟨u1u, h37, h34⟩ := oc h34 fun _ => Zn5
     have h38 := (Z1l (c := Gt.c) (x := u1u) (Gt.c_eq u1u) (Z2s Gt.c))
     obtain ⟨h39, h34⟩ := Z4 h34
     have h40 := (Z30 Gt.c u4k [u1u])
     refine Wc.k2 [hK [3], {}, {}, hE h36, {}, hC h37, hB h38, { hB h40 with tk := [12] }, hK [19]] [0, 3, 4] [] (oC h36 (oC (lenE h36 4) (oC h37 (oC h38 (oA h40 Gt.c_leaf Gt.c_len h39 AllP.nil))))) ?_
     refine Wc.k0 [0, 3, 4] [] ?_
     exact ⟨_, Nat.lt_succ_self _, _, _, stB h34⟩
    refine Wc.ke [3] [] ?_
    cases h34; exact ⟨_, rfl, by kernel_rfl⟩
   rintro st ⟨u5q, rfl, rfl⟩
   refine Wc.s1 [hK [3], hK [20]] [2] [] ?_
   cases h; exact Wc.ret dn
theorem Zh6 {k : Nat} {ve : Gt} {r : Gt} (h : Z6e k ve = some r) : FnO Tryz.prog 50 [.v (.agg (Gt.q ve)) []] (.v (.agg (Gt.q r)) [(3, .app 31)]) [] := (Zl7 k).1 h


def Z6i (k : Nat) (u27 : Gc) : Option (Gc × Bool) :=
 (Ze2 k u27.gA).bind fun u0d =>
 if (!u0d) = true then
  none
 else
  (Z7l k u27.gD).bind fun zm =>
  if (!zm) = true then
   none
  else
   some (u27, true)
def Z82 (k : Nat) (u9 : Gt) (zp : ByteArray) : Option (Gc × Bool) :=
 (Z7l k u9).bind fun u0c =>
 if (!u0c) = true then
  none
 else
  (Z9p k (bs [116, 114, 117, 101])).bind fun ui =>
  (Zmq k u9 (bs [58, 45]) 2).bind fun ze =>
  if ze = true then
   (at' u9.ga 0).bind fun v9 =>
   (at' u9.ga 1).bind fun uk =>
   if (uk.gi == 1) = true then
    none
   else
    Z6i k (Gc.mk v9 uk zp)
  else
   Z6i k (Gc.mk u9 ui zp)
theorem Zh7 {k : Nat} {u9 : Gt} {zp : ByteArray} {r : Gc × Bool} (h : Z82 k u9 zp = some r) : FnO Tryz.prog 44 [.v (.agg (Gt.q u9)) [], .v (.str zp) []] (.v (.tup [.agg (Gc.q r.1), .bool r.2]) []) [] := by
 refine FnO.o2 Tryz.func44 rfl fun _ _ _ _ _ _ => ?_
 unfold Z82 at h
 refine Wc.s0 [1, 2, 4] [2, 4] ?_
 apply Wc.seq
 obtain ⟨u0c, h7, h⟩ := oc h fun _ => Zal
 refine Wc.s2 [{}, hC h7] [1, 2, 4, 9] [2, 4] (o1 h7) ?_
 refine Wc.ci h (fun _ h => ?_) (fun _ h => ?_)
 ·exact (Zk h).elim
 refine Wc.ks [1, 2, 4] [2, 4] ?_
 apply Wc.seq
 obtain ⟨ui, h10, h⟩ := oc h fun _ => Zeb
 refine Wc.dk hmix [{}, hC h10, {}, hK [12], {}, hK [14]] [] [2, 4, 6] [2, 4, 6] [] (o1 h10) ?_
 refine Wc.seqJ (fun st => ∃ (u27 : Gc), st = ⟨[tP 4 4, tP 6 6], [(4, .cells [aI 0, .str (bs []), aI 0, .sl (List.map Gt.c []), aI 0, .str (bs []), aI 0, .sl (List.map Gt.c []), .str (bs [])] [(3, .app 31), (7, .app 31)]), bC 6 (Gc.q u27)], []⟩ ∧ Z6i k u27 = some r) ?_ ?_
 ·obtain ⟨ze, h18, h⟩ := oc h fun _ => Zyn
  refine Wc.s2 [{}, hC h18] [2, 4, 6, 16] [2, 4, 6] (o1 h18) ?_
  refine Wc.ci h (fun _ h => ?_) (fun _ h => ?_)
  ·obtain ⟨v9, h21, h⟩ := oc h fun v9 h21 => (Z11 (c := Gt.c) (Gt.c_eq v9) Gt.c_len h21)
   refine Wc.s2 [{}, {}, hE h21] [2, 4, 6] [2, 4, 6] (o2 h21 (lenE h21 4)) ?_
   obtain ⟨uk, h23, h⟩ := oc h fun uk h23 => (Z11 (c := Gt.c) (Gt.c_eq uk) Gt.c_len h23)
   refine Wc.s2 [{}, {}, hE h23] [4, 6] [4, 6] (o2 h23 (lenE h23 4)) ?_
   refine Wc.s0 [4, 6, 30] [4, 6] ?_
   refine Wc.ci h (fun _ h => ?_) (fun _ h => ?_)
   ·exact (Zk h).elim
   refine Wc.ks [4, 6] [4, 6] ?_
   exact ⟨_, stB h⟩
  refine Wc.fk [.un (.b 6 7)] [4, 6] [4, 6] [] ?_
  apply Wc.skip
  exact ⟨_, stB h⟩
 rintro st ⟨u27, rfl, h⟩
 apply Wc.seq
 obtain ⟨u0d, h12, h⟩ := oc h fun _ => Zm5
 rcases oif h with ⟨h13, h⟩ | ⟨h13, h⟩
 ·refine Wc.s2 [{}, {}, hC h12, {}, rT] [4, 6, 45] [4, 6] (o2 h12 (cb h13)) ?_
  refine Wc.cT rfl ?_
  exact (Zk h).elim
 obtain ⟨zm, h14, h⟩ := oc h fun _ => Zal
 refine Wc.s2 [{}, {}, hC h12, {}, rF, {}, {}, hC h14] [4, 6, 45] [4, 6] (o3 h12 (cb h13) h14) ?_
 refine Wc.ci h (fun _ h => ?_) (fun _ h => ?_)
 ·exact (Zk h).elim
 refine Wc.ks [4, 6] [4, 6] ?_
 refine Wc.s0 [4, 5] [4] ?_
 cases h; exact Wc.ret dn

def Zao (k : Nat) (u27 : Gc) : Option Gc :=
 (Z6e k u27.gA).bind fun ub =>
 (Z6e k u27.gD).bind fun v5 =>
 some (Gc.mk ub v5 u27.gS)
theorem Zhs {k : Nat} {u27 : Gc} {r : Gc} (h : Zao k u27 = some r) : FnO Tryz.prog 45 [.v (.agg (Gc.q u27)) []] (.v (.agg (Gc.q r)) [(3, .app 31), (7, .app 31)]) [] := by
 refine FnO.o2 Tryz.func45 rfl fun _ _ _ _ _ _ => ?_
 unfold Zao at h
 refine Wc.s0 [1, 2] [1, 2] ?_
 obtain ⟨ub, h13, h⟩ := oc h fun _ => Zh6
 refine Wc.s2 [{}, {}, hC h13, {}, hK [5]] [1, 2] [1, 2] (o1 h13) ?_
 obtain ⟨v5, h15, h⟩ := oc h fun _ => Zh6
 refine Wc.s2 [{}, {}, hC h15, {}, hK [9]] [1, 2] [1, 2] (o1 h15) ?_
 refine Wc.s1 [hM 1, hK [11]] [2] [2] ?_
 cases h; exact Wc.ret dn

def Zd8 (k : Nat) (u59 : Gc) : Option Bool :=
 (Z7l k u59.gA).bind fun u0c =>
 if u0c = true then
  (Z7l k u59.gD).bind fun u1a =>
  if u1a = true then
   (Ze2 k u59.gA).bind fun u1b =>
   some u1b
  else
   some false
 else
  some false
theorem Zpi {k : Nat} {u59 : Gc} {r : Bool} (h : Zd8 k u59 = some r) : FnO Tryz.prog 113 [.v (.agg (Gc.q u59)) []] (.v (.bool r) []) [] := by
 refine FnO.o2 Tryz.func113 rfl fun _ _ _ _ _ _ => ?_
 unfold Zd8 at h
 refine Wc.s0 [1] [1] ?_
 obtain ⟨u0c, h9, h⟩ := oc h fun _ => Zal
 rcases oif h with ⟨h10, h⟩ | ⟨h10, h⟩
 ·obtain ⟨u1a, h11, h⟩ := oc h fun _ => Zal
  rcases oif h with ⟨h12, h⟩ | ⟨h12, h⟩
  ·obtain ⟨u1b, h13, h⟩ := oc h fun _ => Zm5
   refine Wc.s2 [{}, {}, hC h9, rT, {}, {}, hC h11, {}, rT, {}, {}, hC h13] [2] [] (oC h9 (oC (cb h10) (oC h11 (oC (cb h12) (oC h13 AllP.nil))))) ?_
   cases h; exact Wc.ret dn
  refine Wc.s2 [{}, {}, hC h9, rT, {}, {}, hC h11, {}, rF] [2] [] (o4 h9 (cb h10) h11 (cb h12)) ?_
  cases h; exact Wc.ret dn
 refine Wc.s2 [{}, {}, hC h9, rF] [2] [] (o2 h9 (cb h10)) ?_
 cases h; exact Wc.ret dn

def Ze3 (k : Nat) (zq : Gd) : Option Gd :=
 if ([] : List Gc).length + zq.gq.length ≤ 1073741824 then
  if ([] : List ByteArray).length + zq.gy.length ≤ 1073741824 then
   some zq
  else none
 else none
theorem Zm6 {k : Nat} {zq : Gd} {r : Gd} (h : Ze3 k zq = some r) : FnO Tryz.prog 76 [.v (.agg (Gd.q zq)) []] (.v (.agg (Gd.q r)) [(0, .app 63), (1, .app 9)]) [] := by
 refine FnO.o2 Tryz.func76 rfl fun _ _ _ _ _ _ => ?_
 unfold Ze3 at h
 refine Wc.s0 [1, 2] [1, 2] ?_
 apply Wc.seq
 have h13 := (Z2s Gc.c)
 obtain ⟨h14, h⟩ := Z4 h
 have h15 := (Zh9 Gc.c zq.gq)
 have h16 := (cR cS [])
 obtain ⟨h17, h⟩ := Z4 h
 have h18 := (Zh9 cS zq.gy)
 refine Wc.dk hmix [hB h13, {}, {}, { hB h15 with tk := [3] }, hB h16, {}, {}, { hB h18 with tk := [7] }, hK [6, 10], hK [11]] [] [2] [2] [] (oC h13 (oE h15 Gc.c_leaf Gc.c_len h14 (oC h16 (oE h18 Zh5 Zau h17 AllP.nil)))) ?_
 cases h; exact Wc.ret dn

def Zgq (k : Nat) (zq : Gd) : Nat → Int → Option (Out Bool Unit)
 | 0, _ => none
 | m + 1, uo =>
  if (decide (uo < (zq.gq.length : Int))) = true then
   (at' zq.gq uo).bind fun u13 =>
   (Zd8 k u13).bind fun u1b =>
   if (!u1b) = true then
    none
   else
    Zgq k zq m (wr.i64 (uo + 1))
  else
   some (.done ())
def Zqg (k : Nat) (zq : Gd) : Option Bool :=
 (Zgq k zq k 0).bind fun out1 => match out1 with
 | .ret r => some r
 | .done () =>
  if (decide ((zq.gq.length : Int) ≤ 120)) = true then
   some (decide ((zq.gy.length : Int) ≤ 40))
  else
   some false
theorem Z119 {k : Nat} {zq : Gd} {r : Bool} (h : Zqg k zq = some r) : FnO Tryz.prog 77 [.v (.agg (Gd.q zq)) []] (.v (.bool r) []) [] := by
 refine FnO.o2 Tryz.func77 rfl fun _ _ _ _ _ _ => ?_
 unfold Zqg at h
 refine Wc.s0 [1] [1] ?_
 apply Wc.seq
 refine Wc.s0 [1, 3] [1] ?_
 obtain ⟨out1, h12, h⟩ := Z2d h
 refine Wc.lastJ (fun st => out1 = .done () ∧ st = ⟨[tP 1 1], [bC 1 (Gd.q zq)], []⟩) ?_ ?_
 ·apply Wc.block
  refine Wc.loop (fun m st => ∃ (uo : Int), st = ⟨[tP 1 1, tI 3 uo], [bC 1 (Gd.q zq)], []⟩ ∧ Zgq k zq m uo = some out1) ?_ k ⟨_, stB h12⟩
  rintro m st ⟨uo, rfl, h12⟩
  rcases m with _ | m
  ·exact (Zk h12).elim
  apply Wc.seq
  refine Wc.s2 [{}, {}, {}, hL zq.gq] [1, 3, 8] [1] (o1 (Z2 Gc.c zq.gq)) ?_
  refine Wc.ci h12 (fun _ h12 => ?_) (fun _ h12 => ?_)
  ·refine Wc.ks [1, 3] [1] ?_
   apply Wc.seq
   apply Wc.block
   obtain ⟨u13, h14, h12⟩ := oc h12 fun u13 h14 => (Z11 (c := Gc.c) (Gc.c_eq u13) Gc.c_len h14)
   obtain ⟨u1b, h15, h12⟩ := oc h12 fun _ => Zpi
   refine Wc.s2 [{}, {}, {}, hE h14, {}, hC h15] [1, 3, 17] [1] (o3 h14 (lenE h14 9) h15) ?_
   refine Wc.ci h12 (fun _ h12 => ?_) (fun _ h12 => ?_)
   ·exact (Zk h12).elim
   refine Wc.ks [1, 3] [1] ?_
   refine Wc.k0 [1, 3] [1] ?_
   exact ⟨_, Nat.lt_succ_self _, _, stB h12⟩
  refine Wc.ke [1] [1] ?_
  cases h12; exact ⟨rfl, by kernel_rfl⟩
 rintro st ⟨rfl, rfl⟩
 rcases oif h with ⟨h19, h⟩ | ⟨h19, h⟩
 ·refine Wc.s2 [{}, {}, hL zq.gq, {}, rT, {}, {}, hL zq.gy] [2] [] (o3 (Z2 Gc.c zq.gq) (cb h19) (Z2 cS zq.gy)) ?_
  cases h; exact Wc.ret dn
 refine Wc.s2 [{}, {}, hL zq.gq, {}, rF] [2] [] (o2 (Z2 Gc.c zq.gq) (cb h19)) ?_
 cases h; exact Wc.ret dn

def Z93 (k : Nat) (u2x : List Gc) : Nat → (List Gc) → Int → Option (Out (List Gc) (List Gc))
 | 0, _, _ => none
 | m + 1, u28, uc =>
  if (decide (uc < (u2x.length : Int))) = true then
   (at' u2x uc).bind fun u39 =>
   (Zao k u39).bind fun u5a =>
   if u28.length + [u5a].length ≤ 1073741824 then
    Z93 k u2x m (u28 ++ [u5a]) (wr.i64 (uc + 1))
   else none
  else
   some (.done u28)
def Zc4 (k : Nat) (u2x : List Gc) : Option (List Gc) :=
 (Z93 k u2x k [] 0).bind fun out1 => match out1 with
 | .ret r => some r
 | .done u5r =>
  some u5r
theorem Znn {k : Nat} {u2x : List Gc} {r : (List Gc)} (h : Zc4 k u2x = some r) : FnO Tryz.prog 78 [.v (.sl (List.map Gc.c u2x)) []] (.v (.sl (List.map Gc.c r)) [(0, .app 63)]) [] := by
 refine FnO.o2 Tryz.func78 rfl fun _ _ _ _ _ _ => ?_
 unfold Zc4 at h
 refine Wc.s0 [0] [] ?_
 have h17 := (Z2s Gc.c)
 refine Wc.s2 [hB h17, hK [5]] [0, 3] [] (o1 h17) ?_
 apply Wc.seq
 refine Wc.s0 [0, 3, 4] [] ?_
 obtain ⟨out1, h18, h⟩ := Z2d h
 refine Wc.lastJ (fun st => ∃ (u5r : List Gc), out1 = .done u5r ∧ st = ⟨[(3, (.v (.sl (List.map Gc.c u5r)), [(0, .app 63)]))], [], []⟩) ?_ ?_
 ·apply Wc.block
  refine Wc.loop (fun m st => ∃ (u28 : List Gc) (uc : Int), st = ⟨[tV 0 (.sl (List.map Gc.c u2x)), (3, (.v (.sl (List.map Gc.c u28)), [(0, .app 63)])), tI 4 uc], [], []⟩ ∧ Z93 k u2x m u28 uc = some out1) ?_ k ⟨_, _, stB h18⟩
  rintro m st ⟨u28, uc, rfl, h18⟩
  rcases m with _ | m
  ·exact (Zk h18).elim
  apply Wc.seq
  refine Wc.s2 [{}, {}, hL u2x] [0, 3, 4, 9] [] (o1 (Z2 Gc.c u2x)) ?_
  refine Wc.ci h18 (fun _ h18 => ?_) (fun _ h18 => ?_)
  ·refine Wc.ks [0, 3, 4] [] ?_
   apply Wc.seq
   apply Wc.block
   obtain ⟨u39, h20, h18⟩ := oc h18 fun u39 h20 => (Z11 (c := Gc.c) (Gc.c_eq u39) Gc.c_len h20)
   obtain ⟨u5a, h21, h18⟩ := oc h18 fun _ => Zhs
   have h22 := (Z1l (c := Gc.c) (x := u5a) (Gc.c_eq u5a) (Z2s Gc.c))
   obtain ⟨h23, h18⟩ := Z4 h18
   have h24 := (Z30 Gc.c u28 [u5a])
   refine Wc.k2 [hK [3], {}, {}, hE h20, {}, hC h21, hB h22, { hB h24 with tk := [12] }, hK [19]] [0, 3, 4] [] (oC h20 (oC (lenE h20 9) (oC h21 (oC h22 (oA h24 Gc.c_leaf Gc.c_len h23 AllP.nil))))) ?_
   refine Wc.k0 [0, 3, 4] [] ?_
   exact ⟨_, Nat.lt_succ_self _, _, _, stB h18⟩
  refine Wc.ke [3] [] ?_
  cases h18; exact ⟨_, rfl, by kernel_rfl⟩
 rintro st ⟨u5r, rfl, rfl⟩
 refine Wc.s1 [hK [3], hK [20]] [2] [] ?_
 cases h; exact Wc.ret dn

def Zc3 (k : Nat) (u5b : List ByteArray) : Option (List ByteArray) :=
 if ([] : List ByteArray).length + u5b.length ≤ 1073741824 then
  some u5b
 else none
theorem Znm {k : Nat} {u5b : List ByteArray} {r : (List ByteArray)} (h : Zc3 k u5b = some r) : FnO Tryz.prog 79 [.v (.sl (List.map cS u5b)) []] (.v (.sl (List.map cS r)) [(0, .app 9)]) [] := by
 refine FnO.o2 Tryz.func79 rfl fun _ _ _ _ _ _ => ?_
 unfold Zc3 at h
 refine Wc.s0 [0] [] ?_
 have h12 := (cR cS [])
 obtain ⟨h13, h⟩ := Z4 h
 have h14 := (Zh9 cS u5b)
 refine Wc.s2 [hB h12, {}, { hB h14 with tk := [3] }, hK [5]] [2] [] (oC h12 (oE h14 Zh5 Zau h13 AllP.nil)) ?_
 cases h; exact Wc.ret dn

def Zaz (k : Nat) (u1q : Gd) (u29 : Gc) : Option (Gd × Bool) :=
 (Ze3 k u1q).bind fun u1v =>
 if u1v.gq.length + [u29].length ≤ 1073741824 then
  (Zqg k (Gd.mk (u1v.gq ++ [u29]) u1v.gy)).bind fun ze =>
  if (!ze) = true then
   none
  else
   some (Gd.mk (u1v.gq ++ [u29]) u1v.gy, true)
 else none
theorem Zl5 {k : Nat} {u1q : Gd} {u29 : Gc} {r : Gd × Bool} (h : Zaz k u1q u29 = some r) : FnO Tryz.prog 46 [.v (.agg (Gd.q u1q)) [], .v (.agg (Gc.q u29)) []] (.v (.tup [.agg (Gd.q r.1), .bool r.2]) [(0, .app 63), (1, .app 9)]) [] := by
 refine FnO.o2 Tryz.func46 rfl fun _ _ _ _ _ _ => ?_
 unfold Zaz at h
 refine Wc.s0 [2, 3, 4] [2, 3, 4] ?_
 obtain ⟨u1v, h15, h⟩ := oc h fun _ => Zm6
 refine Wc.s2 [{}, hC h15, {}, hK [8]] [3, 4, 6] [3, 4, 6] (o1 h15) ?_
 have h17 := (Z1l (c := Gc.c) (x := u29) (Gc.c_eq u29) (Z2s Gc.c))
 obtain ⟨h18, h⟩ := Z4 h
 have h19 := (Z30 Gc.c u1v.gq [u29])
 refine Wc.s3 [{}, hM 1, {}, hB h17, { hB h19 with tk := [10] }, {}, hK [13]] [.so 6] [4, 6] [4, 6] [] (oC h17 (oA h19 Gc.c_leaf Gc.c_len h18 AllP.nil)) ?_
 apply Wc.seq
 obtain ⟨ze, h20, h⟩ := oc h fun _ => Z119
 refine Wc.s2 [{}, hC h20] [4, 6, 17] [4, 6] (o1 h20) ?_
 refine Wc.ci h (fun _ h => ?_) (fun _ h => ?_)
 ·exact (Zk h).elim
 refine Wc.ks [4, 6] [4, 6] ?_
 refine Wc.s1 [hM 1, hK [20]] [4, 5] [4] ?_
 cases h; exact Wc.ret dn

def Zic (k : Nat) (u1q : Gd) : Option Gd :=
 (Zc4 k u1q.gq).bind fun u9a =>
 (Zc3 k u1q.gy).bind fun u9b =>
 some (Gd.mk u9a u9b)
theorem Zso {k : Nat} {u1q : Gd} {r : Gd} (h : Zic k u1q = some r) : FnO Tryz.prog 47 [.v (.agg (Gd.q u1q)) []] (.v (.agg (Gd.q r)) [(0, .app 63), (1, .app 9)]) [] := by
 refine FnO.o2 Tryz.func47 rfl fun _ _ _ _ _ _ => ?_
 unfold Zic at h
 refine Wc.s0 [1, 2] [1, 2] ?_
 obtain ⟨u9a, h13, h⟩ := oc h fun _ => Znn
 refine Wc.s2 [{}, {}, hC h13, {}, hK [5]] [1, 2] [1, 2] (o1 h13) ?_
 obtain ⟨u9b, h15, h⟩ := oc h fun _ => Znm
 refine Wc.s2 [{}, {}, hC h15, {}, hK [9]] [1, 2] [1, 2] (o1 h15) ?_
 refine Wc.s1 [hM 1, hK [11]] [2] [2] ?_
 cases h; exact Wc.ret dn

def Z7g (k : Nat) (u2l : Gd) (u02 : ByteArray) : Nat → Int → Option (Out Gd Unit)
 | 0, _ => none
 | m + 1, va =>
  if (decide (va < (u2l.gy.length : Int))) = true then
   (at' u2l.gy va).bind fun u1w =>
   if (sEq u1w u02) = true then
    none
   else
    Z7g k u2l u02 m (wr.i64 (va + 1))
  else
   some (.done ())
def Za7 (k : Nat) (u2l : Gd) (u02 : ByteArray) : Option Gd :=
 (Ze3 k u2l).bind fun u3a =>
 (Z7g k u2l u02 k 0).bind fun out1 => match out1 with
 | .ret r => some r
 | .done () =>
  if (decide ((u3a.gy.length : Int) < 40)) = true then
   if u3a.gy.length + [u02].length ≤ 1073741824 then
    some (Gd.mk u3a.gq (u3a.gy ++ [u02]))
   else none
  else
   some u3a
theorem Zkh {k : Nat} {u2l : Gd} {u02 : ByteArray} {r : Gd} (h : Za7 k u2l u02 = some r) : FnO Tryz.prog 48 [.v (.agg (Gd.q u2l)) [], .v (.str u02) []] (.v (.agg (Gd.q r)) [(0, .app 63), (1, .app 9)]) [] := by
 refine FnO.o2 Tryz.func48 rfl fun _ _ _ _ _ _ => ?_
 unfold Za7 at h
 refine Wc.s0 [1, 2, 4] [2, 4] ?_
 obtain ⟨u3a, h18, h⟩ := oc h fun _ => Zm6
 refine Wc.s2 [{}, hC h18, {}, hK [8]] [1, 2, 4, 5] [2, 4, 5] (o1 h18) ?_
 apply Wc.seq
 refine Wc.s0 [1, 2, 4, 5, 6] [2, 4, 5] ?_
 obtain ⟨out1, h20, h⟩ := Z2d h
 refine Wc.lastJ (fun st => out1 = .done () ∧ st = ⟨[tS 1 u02, tP 4 4, tP 5 5], [(4, .cells Gd.z [(0, .app 63), (1, .app 9)]), (5, .cells (Gd.q u3a) [(0, .app 63), (1, .app 9)])], []⟩) ?_ ?_
 ·apply Wc.block
  refine Wc.loop (fun m st => ∃ (va : Int), st = ⟨[tS 1 u02, tP 2 2, tP 4 4, tP 5 5, tI 6 va], [bC 2 (Gd.q u2l), (4, .cells Gd.z [(0, .app 63), (1, .app 9)]), (5, .cells (Gd.q u3a) [(0, .app 63), (1, .app 9)])], []⟩ ∧ Z7g k u2l u02 m va = some out1) ?_ k ⟨_, stB h20⟩
  rintro m st ⟨va, rfl, h20⟩
  rcases m with _ | m
  ·exact (Zk h20).elim
  apply Wc.seq
  refine Wc.s2 [{}, {}, {}, hL u2l.gy] [1, 2, 4, 5, 6, 13] [2, 4, 5] (o1 (Z2 cS u2l.gy)) ?_
  refine Wc.ci h20 (fun _ h20 => ?_) (fun _ h20 => ?_)
  ·refine Wc.ks [1, 2, 4, 5, 6] [2, 4, 5] ?_
   apply Wc.seq
   apply Wc.block
   obtain ⟨u1w, h22, h20⟩ := oc h20 fun u1w h22 => (Z11 (c := cS) rfl Zau h22)
   refine Wc.s2 [{}, {}, {}, hE h22] [1, 2, 4, 5, 6, 22] [2, 4, 5] (o2 h22 (lenE h22 1)) ?_
   refine Wc.ci h20 (fun _ h20 => ?_) (fun _ h20 => ?_)
   ·exact (Zk h20).elim
   refine Wc.ks [1, 2, 4, 5, 6] [2, 4, 5] ?_
   refine Wc.k0 [1, 2, 4, 5, 6] [2, 4, 5] ?_
   exact ⟨_, Nat.lt_succ_self _, _, stB h20⟩
  refine Wc.ke [1, 4, 5] [4, 5] ?_
  cases h20; exact ⟨rfl, by kernel_rfl⟩
 rintro st ⟨rfl, rfl⟩
 apply Wc.seq
 refine Wc.s2 [{}, {}, hL u3a.gy] [1, 4, 5, 27] [4, 5] (o1 (Z2 cS u3a.gy)) ?_
 refine Wc.ci h (fun _ h => ?_) (fun _ h => ?_)
 ·have h26 := (cR cS [u02])
  obtain ⟨h27, h⟩ := Z4 h
  have h28 := (Z30 cS u3a.gy [u02])
  refine Wc.k2 [{}, hM 1, {}, hB h26, { hB h28 with tk := [29] }, {}, hK [32]] [4, 5] [4, 5] (oC h26 (oA h28 Zh5 Zau h27 AllP.nil)) ?_
  refine Wc.s1 [hM 1, hK [34]] [4] [4] ?_
  cases h; exact Wc.ret dn
 refine Wc.ks [4, 5] [4, 5] ?_
 refine Wc.s1 [hM 1, hK [34]] [4] [4] ?_
 cases h; exact Wc.ret dn

def Za8 (k : Nat) : Option (List ByteArray) :=
 some [(bs [112, 40, 97, 41]), (bs [112, 40, 98, 41]), (bs [112, 40, 99, 41]), (bs [113, 40, 88, 41, 32, 58, 45, 32, 112, 40, 88, 41]), (bs [113, 40, 122, 41]), (bs [114, 40, 88, 44, 32, 89, 41, 32, 58, 45, 32, 112, 40, 88, 41, 44, 32, 113, 40, 89, 41]), (bs [97, 112, 112, 40, 91, 93, 44, 32, 76, 44, 32, 76, 41]), (bs [97, 112, 112, 40, 91, 72, 124, 84, 93, 44, 32, 76, 44, 32, 91, 72, 124, 82, 93, 41, 32, 58, 45, 32, 97, 112, 112, 40, 84, 44, 32, 76, 44, 32, 82, 41]), (bs [108, 101, 110, 40, 91, 93, 44, 32, 48, 41]), (bs [108, 101, 110, 40, 91, 95, 124, 84, 93, 44, 32, 78, 41, 32, 58, 45, 32, 108, 101, 110, 40, 84, 44, 32, 77, 41, 44, 32, 78, 32, 105, 115, 32, 77, 32, 43, 32, 49]), (bs [115, 40, 88, 41, 32, 58, 45, 32, 112, 40, 88, 41, 44, 32, 33]), (bs [115, 40, 122, 41]), (bs [116, 40, 88, 41, 32, 58, 45, 32, 40, 112, 40, 88, 41, 32, 45, 62, 32, 116, 114, 117, 101, 32, 59, 32, 88, 32, 61, 32, 110, 111, 110, 101, 41]), (bs [117, 40, 88, 41, 32, 58, 45, 32, 92, 43, 32, 112, 40, 88, 41]), (bs [119, 40, 88, 41, 32, 58, 45, 32, 112, 40, 88, 41, 44, 32, 119, 114, 105, 116, 101, 40, 88, 41]), (bs [99, 40, 88, 41, 32, 58, 45, 32, 99, 97, 116, 99, 104, 40, 112, 40, 88, 41, 44, 32, 95, 44, 32, 116, 114, 117, 101, 41]), (bs [101, 40, 88, 41, 32, 58, 45, 32, 99, 97, 116, 99, 104, 40, 116, 104, 114, 111, 119, 40, 88, 41, 44, 32, 89, 44, 32, 119, 114, 105, 116, 101, 40, 89, 41, 41]), (bs [110, 40, 88, 41, 32, 58, 45, 32, 88, 32, 105, 115, 32, 51, 32, 47, 47, 32, 48]), (bs [109, 40, 88, 41, 32, 58, 45, 32, 99, 97, 116, 99, 104, 40, 110, 40, 88, 41, 44, 32, 101, 114, 114, 111, 114, 40, 69, 44, 32, 95, 41, 44, 32, 40, 88, 32, 61, 32, 69, 41, 41]), (bs [97, 100, 100, 40, 88, 41, 32, 58, 45, 32, 97, 115, 115, 101, 114, 116, 122, 40, 112, 40, 88, 41, 41]), (bs [100, 101, 108, 40, 88, 41, 32, 58, 45, 32, 114, 101, 116, 114, 97, 99, 116, 40, 112, 40, 88, 41, 41]), (bs [108, 111, 111, 112, 32, 58, 45, 32, 108, 111, 111, 112]), (bs [118, 40, 88, 41, 32, 58, 45, 32, 99, 97, 108, 108, 40, 112, 44, 32, 88, 41]), (bs [100, 40, 88, 44, 32, 89, 41, 32, 58, 45, 32, 88, 32, 61, 32, 89, 32, 59, 32, 89, 32, 61, 32, 98]), (bs [103, 40, 102, 40, 88, 41, 44, 32, 88, 41]), (bs [103, 40, 104, 40, 88, 41, 44, 32, 88, 41]), (bs [103, 40, 49, 44, 32, 111, 110, 101, 41]), (bs [107, 40, 88, 41, 32, 58, 45, 32, 117, 110, 107, 110, 111, 119, 110, 40, 88, 41]), (bs [121, 40, 88, 41, 32, 58, 45, 32, 112, 40, 88, 41, 44, 32, 97, 115, 115, 101, 114, 116, 122, 40, 112, 40, 100, 41, 41, 44, 32, 88, 32, 61, 32, 98])]
theorem Zr6 {k : Nat} {r : (List ByteArray)} (h : Za8 k = some r) : FnO Tryz.prog 21 [] (.v (.sl (List.map cS r)) [(0, .app 9)]) [] := by
 refine FnO.o2 Tryz.func21 rfl fun _ _ _ _ _ _ => ?_
 unfold Za8 at h
 refine Wc.s0 [] [] ?_
 have h8 := (cR cS [(bs [112, 40, 97, 41]), (bs [112, 40, 98, 41]), (bs [112, 40, 99, 41]), (bs [113, 40, 88, 41, 32, 58, 45, 32, 112, 40, 88, 41]), (bs [113, 40, 122, 41]), (bs [114, 40, 88, 44, 32, 89, 41, 32, 58, 45, 32, 112, 40, 88, 41, 44, 32, 113, 40, 89, 41]), (bs [97, 112, 112, 40, 91, 93, 44, 32, 76, 44, 32, 76, 41]), (bs [97, 112, 112, 40, 91, 72, 124, 84, 93, 44, 32, 76, 44, 32, 91, 72, 124, 82, 93, 41, 32, 58, 45, 32, 97, 112, 112, 40, 84, 44, 32, 76, 44, 32, 82, 41]), (bs [108, 101, 110, 40, 91, 93, 44, 32, 48, 41]), (bs [108, 101, 110, 40, 91, 95, 124, 84, 93, 44, 32, 78, 41, 32, 58, 45, 32, 108, 101, 110, 40, 84, 44, 32, 77, 41, 44, 32, 78, 32, 105, 115, 32, 77, 32, 43, 32, 49]), (bs [115, 40, 88, 41, 32, 58, 45, 32, 112, 40, 88, 41, 44, 32, 33]), (bs [115, 40, 122, 41]), (bs [116, 40, 88, 41, 32, 58, 45, 32, 40, 112, 40, 88, 41, 32, 45, 62, 32, 116, 114, 117, 101, 32, 59, 32, 88, 32, 61, 32, 110, 111, 110, 101, 41]), (bs [117, 40, 88, 41, 32, 58, 45, 32, 92, 43, 32, 112, 40, 88, 41]), (bs [119, 40, 88, 41, 32, 58, 45, 32, 112, 40, 88, 41, 44, 32, 119, 114, 105, 116, 101, 40, 88, 41]), (bs [99, 40, 88, 41, 32, 58, 45, 32, 99, 97, 116, 99, 104, 40, 112, 40, 88, 41, 44, 32, 95, 44, 32, 116, 114, 117, 101, 41]), (bs [101, 40, 88, 41, 32, 58, 45, 32, 99, 97, 116, 99, 104, 40, 116, 104, 114, 111, 119, 40, 88, 41, 44, 32, 89, 44, 32, 119, 114, 105, 116, 101, 40, 89, 41, 41]), (bs [110, 40, 88, 41, 32, 58, 45, 32, 88, 32, 105, 115, 32, 51, 32, 47, 47, 32, 48]), (bs [109, 40, 88, 41, 32, 58, 45, 32, 99, 97, 116, 99, 104, 40, 110, 40, 88, 41, 44, 32, 101, 114, 114, 111, 114, 40, 69, 44, 32, 95, 41, 44, 32, 40, 88, 32, 61, 32, 69, 41, 41]), (bs [97, 100, 100, 40, 88, 41, 32, 58, 45, 32, 97, 115, 115, 101, 114, 116, 122, 40, 112, 40, 88, 41, 41]), (bs [100, 101, 108, 40, 88, 41, 32, 58, 45, 32, 114, 101, 116, 114, 97, 99, 116, 40, 112, 40, 88, 41, 41]), (bs [108, 111, 111, 112, 32, 58, 45, 32, 108, 111, 111, 112]), (bs [118, 40, 88, 41, 32, 58, 45, 32, 99, 97, 108, 108, 40, 112, 44, 32, 88, 41]), (bs [100, 40, 88, 44, 32, 89, 41, 32, 58, 45, 32, 88, 32, 61, 32, 89, 32, 59, 32, 89, 32, 61, 32, 98]), (bs [103, 40, 102, 40, 88, 41, 44, 32, 88, 41]), (bs [103, 40, 104, 40, 88, 41, 44, 32, 88, 41]), (bs [103, 40, 49, 44, 32, 111, 110, 101, 41]), (bs [107, 40, 88, 41, 32, 58, 45, 32, 117, 110, 107, 110, 111, 119, 110, 40, 88, 41]), (bs [121, 40, 88, 41, 32, 58, 45, 32, 112, 40, 88, 41, 44, 32, 97, 115, 115, 101, 114, 116, 122, 40, 112, 40, 100, 41, 41, 44, 32, 88, 32, 61, 32, 98])])
 refine Wc.s2 [hB h8, hK [1]] [0] [] (o1 h8) ?_
 cases h; exact Wc.ret dn

def Zbl (k : Nat) (u0w : GXc) : Option (GXc × Int) :=
 if (decide (u0w.gI < (u0w.gB.length : Int))) = true then
  (at' u0w.gB u0w.gI).bind fun um =>
  some (GXc.mk u0w.gB (wr.i64 (u0w.gI + 1)) (wr.i64 ((wr.i64 (u0w.gH * 6364136223846793005)) + 1442695040888963407)), band .i64 (wr.i64 ((band .i64 (bxor .i64 (bshr .i64 (wr.i64 ((wr.i64 (u0w.gH * 6364136223846793005)) + 1442695040888963407)) 33) (bshr .i64 (wr.i64 ((wr.i64 (u0w.gH * 6364136223846793005)) + 1442695040888963407)) 45)) 255) + (wr.i64 um))) 255)
 else
  some (GXc.mk u0w.gB u0w.gI (wr.i64 ((wr.i64 (u0w.gH * 6364136223846793005)) + 1442695040888963407)), band .i64 (bxor .i64 (bshr .i64 (wr.i64 ((wr.i64 (u0w.gH * 6364136223846793005)) + 1442695040888963407)) 33) (bshr .i64 (wr.i64 ((wr.i64 (u0w.gH * 6364136223846793005)) + 1442695040888963407)) 45)) 255)
theorem Ztw {k : Nat} {u0w : GXc} {r : GXc × Int} (h : Zbl k u0w = some r) : FnO Tryz.prog 41 [.p (GXc.q u0w) []] (.v (aI r.2) []) [(0, .p (GXc.q r.1) [])] := by
 refine FnO.o2 Tryz.func41 rfl fun _ _ _ _ _ _ => ?_
 unfold Zbl at h
 refine Wc.s0 [0] [1000000] ?_
 refine Wc.s0 [0] [1000000] ?_
 apply Wc.seq
 refine Wc.dk hmix [] [] [0, 3] [1000000] [] (o2 (show (0 : Int) ≤ 33 by decide) (show (0 : Int) ≤ 45 by decide)) ?_
 apply Wc.seq
 apply Wc.seq
 refine Wc.dk hmix [{}, {}, {}, {}, {}, {}, {}, {}, hL u0w.gB] [] [0, 3, 34] [1000000] [] (o1 (Z2 cI.u8 u0w.gB)) ?_
 refine Wc.ci h (fun _ h => ?_) (fun _ h => ?_)
 ·apply Wc.seq
  obtain ⟨um, h12, h⟩ := oc h fun um h12 => (Z11 (c := cI.u8) rfl cI.u8_len h12)
  refine Wc.dk hmix [{}, {}, {}, {}, {}, {}, {}, {}, {}, hE h12] [] [0, 3] [1000000] [] (o2 h12 (lenE h12 1)) ?_
  refine Wc.k0 [3] [1000000] ?_
  refine Wc.s0 [2] [1000000] ?_
  cases h; exact Wc.ret dn
 refine Wc.ks [3] [1000000] ?_
 refine Wc.s0 [2] [1000000] ?_
 cases h; exact Wc.ret dn

def Z66 (k : Nat) (u6x : GXc) (ud : Int) : Option (GXc × Int) :=
 if (decide (ud ≤ 0)) = true then
  none
 else
  if (decide (ud ≤ 256)) = true then
   (Zbl k u6x).bind fun u8l =>
   if (ud : Int) ≠ 0 then
    some (u8l.1, Int.tmod u8l.2 ud)
   else none
  else
   none
theorem Zcq {k : Nat} {u6x : GXc} {ud : Int} {r : GXc × Int} (h : Z66 k u6x ud = some r) : FnO Tryz.prog 22 [.p (GXc.q u6x) [], .v (aI ud) []] (.v (aI r.2) []) [(0, .p (GXc.q r.1) [])] := by
 refine FnO.o2 Tryz.func22 rfl fun _ _ _ _ _ _ => ?_
 unfold Z66 at h
 refine Wc.s0 [0, 1] [1000000] ?_
 apply Wc.seq
 refine Wc.s0 [0, 1, 10] [1000000] ?_
 refine Wc.ci h (fun _ h => ?_) (fun _ h => ?_)
 ·exact (Zk h).elim
 refine Wc.ks [0, 1] [1000000] ?_
 apply Wc.seq
 refine Wc.s0 [0, 1, 12] [1000000] ?_
 refine Wc.ci h (fun _ h => ?_) (fun _ h => ?_)
 ·obtain ⟨u8l, h11, h⟩ := oc h fun _ => Ztw
  obtain ⟨h12, h⟩ := Z4 h
  refine Wc.s2 [{}, hC h11] [4] [1000000] (o2 h11 h12) ?_
  cases h; exact Wc.ret dn
 refine Wc.ks [] [1000000] ?_
 exact (Zk h).elim

def Zab (k : Nat) (u2y : List Gn) : Nat → Int → Option (Out Int Unit)
 | 0, _ => none
 | m + 1, uc =>
  if (decide (uc < (u2y.length : Int))) = true then
   (at' u2y (wr.i64 ((wr.i64 (uc + 1)) - 1))).bind fun u6y =>
   if (u6y.gi == 5) = true then
    some (.ret (wr.i64 (uc + 1)))
   else
    Zab k u2y m (wr.i64 (uc + 1))
  else
   some (.done ())
def Zd9 (k : Nat) (u2y : List Gn) (v0 : Int) : Option Int :=
 if (decide (v0 < 0)) = true then
  none
 else
  (Zab k u2y k v0).bind fun out1 => match out1 with
  | .ret r => some r
  | .done () =>
   none
theorem Zpj {k : Nat} {u2y : List Gn} {v0 : Int} {r : Int} (h : Zd9 k u2y v0 = some r) : FnO Tryz.prog 69 [.v (.sl (List.map Gn.c u2y)) [], .v (aI v0) []] (.v (aI r) []) [] := by
 refine FnO.o2 Tryz.func69 rfl fun _ _ _ _ _ _ => ?_
 unfold Zd9 at h
 refine Wc.s0 [0, 1] [] ?_
 apply Wc.seq
 refine Wc.s0 [0, 1, 6] [] ?_
 refine Wc.ci h (fun _ h => ?_) (fun _ h => ?_)
 ·exact (Zk h).elim
 refine Wc.ks [0, 1] [] ?_
 obtain ⟨out1, h15, h⟩ := Z2d h
 refine Wc.seqJ (fun st => out1 = .done () ∧ st = ⟨[], [], []⟩) ?_ ?_
 ·apply Wc.block
  refine Wc.loop (fun m st => ∃ (uc : Int), st = ⟨[tV 0 (.sl (List.map Gn.c u2y)), tI 1 uc], [], []⟩ ∧ Zab k u2y m uc = some out1) ?_ k ⟨_, stB h15⟩
  rintro m st ⟨uc, rfl, h15⟩
  rcases m with _ | m
  ·exact (Zk h15).elim
  apply Wc.seq
  refine Wc.s2 [{}, {}, hL u2y] [0, 1, 10] [] (o1 (Z2 Gn.c u2y)) ?_
  refine Wc.ci h15 (fun _ h15 => ?_) (fun _ h15 => ?_)
  ·refine Wc.ks [0, 1] [] ?_
   apply Wc.block
   refine Wc.s0 [0, 1] [] ?_
   obtain ⟨u6y, h17, h15⟩ := oc h15 fun u6y h17 => (Z11 (c := Gn.c) (Gn.c_eq u6y) Gn.c_len h17)
   refine Wc.s2 [{}, {}, {}, hE h17] [0, 1, 19] [] (o2 h17 (lenE h17 1)) ?_
   refine Wc.ci h15 (fun _ h15 => ?_) (fun _ h15 => ?_)
   ·refine Wc.s0 [4] [] ?_
    cases h15; cases h; exact Wc.ret dn
   refine Wc.ks [0, 1] [] ?_
   exact ⟨_, Nat.lt_succ_self _, _, stB h15⟩
  refine Wc.ke [] [] ?_
  cases h15; exact ⟨rfl, by kernel_rfl⟩
 rintro st ⟨rfl, rfl⟩
 exact (Zk h).elim

def Zaa (k : Nat) (u50 : GXr) : Option (GXr × Bool) :=
 none
theorem Zkj {k : Nat} {u50 : GXr} {r : GXr × Bool} (h : Zaa k u50 = some r) : FnO Tryz.prog 148 [.p (GXr.k2 u50) (GXr.h4_9f u50)] (.v (.bool r.2) []) [(0, .p (GXr.k2 r.1) (GXr.h4_9f r.1))] := by
 refine FnO.o2 Tryz.func148 rfl fun _ _ _ _ _ _ => ?_
 unfold Zaa at h
 refine Wc.s0 [] [1000000] ?_
 exact (Zk h).elim

def Zeo (k : Nat) (u2m : ByteArray) : Option (GOp × Bool) :=
 if (sEq u2m (bs [58, 45])) = true then
  none
 else
  if (sEq u2m (bs [92, 43])) = true then
   some (GOp.mk u2m 900 0 900, true)
  else
   if (sEq u2m (bs [45])) = true then
    none
   else
    some (GOp.mk (bs []) 0 0 0, false)
theorem Zra {k : Nat} {u2m : ByteArray} {r : GOp × Bool} (h : Zeo k u2m = some r) : FnO Tryz.prog 149 [.v (.str u2m) []] (.v (.tup [.agg (GOp.q r.1), .bool r.2]) []) [] := by
 refine FnO.o2 Tryz.func149 rfl fun _ _ _ _ _ _ => ?_
 unfold Zeo at h
 refine Wc.s0 [0, 2] [2] ?_
 apply Wc.seq
 refine Wc.s0 [0, 2, 4] [2] ?_
 apply Wc.block
 refine Wc.s0 [0, 2, 4, 5] [2] ?_
 refine Wc.ci h (fun _ h => ?_) (fun _ h => ?_)
 ·exact (Zk h).elim
 refine Wc.s0 [0, 2, 4, 9] [2] ?_
 refine Wc.ci h (fun _ h => ?_) (fun _ h => ?_)
 ·refine Wc.s0 [2, 3] [2] ?_
  cases h; exact Wc.ret dn
 refine Wc.s0 [2, 13] [2] ?_
 refine Wc.ci h (fun _ h => ?_) (fun _ h => ?_)
 ·exact (Zk h).elim
 refine Wc.ks [2] [2] ?_
 refine Wc.s0 [2, 3] [2] ?_
 cases h; exact Wc.ret dn

def Zcb (k : Nat) (ur : ByteArray) (u2a : Bool) : Option (GOp × Bool) :=
 if u2a = true then
  some (GOp.mk ur 500 500 499, true)
 else
  if (sEq ur (bs [42])) = true then
   if (sEq ur (bs [42])) = true then
    some (GOp.mk ur 400 400 399, true)
   else
    some (GOp.mk (bs []) 0 0 0, false)
  else
   if (sEq ur (bs [47, 47])) = true then
    some (GOp.mk ur 400 400 399, true)
   else
    some (GOp.mk (bs []) 0 0 0, false)
def Z5h (k : Nat) (ur : ByteArray) (u2b : Bool) : Option (GOp × Bool) :=
 if u2b = true then
  some (GOp.mk ur 700 699 699, true)
 else
  if (sEq ur (bs [43])) = true then
   Zcb k ur (sEq ur (bs [43]))
  else
   Zcb k ur (sEq ur (bs [45]))
def Zcc (k : Nat) (ur : ByteArray) (u1d : Bool) : Option (GOp × Bool) :=
 if u1d = true then
  some (GOp.mk ur 1200 1199 1199, true)
 else
  if (sEq ur (bs [59])) = true then
   some (GOp.mk ur 1100 1099 1100, true)
  else
   if (sEq ur (bs [45, 62])) = true then
    some (GOp.mk ur 1050 1049 1050, true)
   else
    if (sEq ur (bs [44])) = true then
     some (GOp.mk ur 1000 999 1000, true)
    else
     if (sEq ur (bs [61])) = true then
      Z5h k ur (sEq ur (bs [61]))
     else
      if (sEq ur (bs [92, 61])) = true then
       Z5h k ur (sEq ur (bs [92, 61]))
      else
       if (sEq ur (bs [61, 61])) = true then
        Z5h k ur (sEq ur (bs [61, 61]))
       else
        if (sEq ur (bs [105, 115])) = true then
         Z5h k ur (sEq ur (bs [105, 115]))
        else
         if (sEq ur (bs [60])) = true then
          Z5h k ur (sEq ur (bs [60]))
         else
          Z5h k ur (sEq ur (bs [61, 58, 61]))
def Zbo (k : Nat) (ur : ByteArray) : Option (GOp × Bool) :=
 if (sEq ur (bs [58, 45])) = true then
  Zcc k ur (sEq ur (bs [58, 45]))
 else
  Zcc k ur (sEq ur (bs [45, 45, 62]))
theorem Zh8 {k : Nat} {ur : ByteArray} {r : GOp × Bool} (h : Zbo k ur = some r) : FnO Tryz.prog 138 [.v (.str ur) []] (.v (.tup [.agg (GOp.q r.1), .bool r.2]) []) [] := by
 refine FnO.o2 Tryz.func138 rfl fun _ _ _ _ _ _ => ?_
 unfold Zbo at h
 refine Wc.s0 [0, 2] [2] ?_
 apply Wc.seq
 refine Wc.s0 [0, 2, 4] [2] ?_
 apply Wc.block
 refine Wc.seqJ (fun st => ∃ (u1d : Bool), st = ⟨[tS 0 ur, tP 2 2, tS 4 ur, tB 5 u1d], [bC 2 GOp.z], []⟩ ∧ Zcc k ur u1d = some r) ?_ ?_
 ·refine Wc.s0 [0, 2, 4, 5] [2] ?_
  refine Wc.ci h (fun _ h => ?_) (fun _ h => ?_)
  ·apply Wc.skip
   exact ⟨_, stB h⟩
  refine Wc.k0 [0, 2, 4, 5] [2] ?_
  exact ⟨_, stB h⟩
 rintro st ⟨u1d, rfl, h⟩
 refine Wc.ci h (fun _ h => ?_) (fun _ h => ?_)
 ·refine Wc.s0 [2, 3] [2] ?_
  cases h; exact Wc.ret dn
 refine Wc.s0 [0, 2, 4, 10] [2] ?_
 refine Wc.ci h (fun _ h => ?_) (fun _ h => ?_)
 ·refine Wc.s0 [2, 3] [2] ?_
  cases h; exact Wc.ret dn
 refine Wc.s0 [0, 2, 4, 14] [2] ?_
 refine Wc.ci h (fun _ h => ?_) (fun _ h => ?_)
 ·refine Wc.s0 [2, 3] [2] ?_
  cases h; exact Wc.ret dn
 refine Wc.s0 [0, 2, 4, 18] [2] ?_
 refine Wc.ci h (fun _ h => ?_) (fun _ h => ?_)
 ·refine Wc.s0 [2, 3] [2] ?_
  cases h; exact Wc.ret dn
 refine Wc.seqJ (fun st => ∃ (u2b : Bool), st = ⟨[tS 0 ur, tP 2 2, tS 4 ur, tB 22 u2b], [bC 2 GOp.z], []⟩ ∧ Z5h k ur u2b = some r) ?_ ?_
 ·refine Wc.s0 [0, 2, 4, 22] [2] ?_
  refine Wc.ci h (fun _ h => ?_) (fun _ h => ?_)
  ·apply Wc.skip
   exact ⟨_, stB h⟩
  refine Wc.s0 [0, 2, 4, 22] [2] ?_
  refine Wc.ci h (fun _ h => ?_) (fun _ h => ?_)
  ·apply Wc.skip
   exact ⟨_, stB h⟩
  refine Wc.s0 [0, 2, 4, 22] [2] ?_
  refine Wc.ci h (fun _ h => ?_) (fun _ h => ?_)
  ·apply Wc.skip
   exact ⟨_, stB h⟩
  refine Wc.s0 [0, 2, 4, 22] [2] ?_
  refine Wc.ci h (fun _ h => ?_) (fun _ h => ?_)
  ·apply Wc.skip
   exact ⟨_, stB h⟩
  refine Wc.s0 [0, 2, 4, 22] [2] ?_
  refine Wc.ci h (fun _ h => ?_) (fun _ h => ?_)
  ·apply Wc.skip
   exact ⟨_, stB h⟩
  refine Wc.k0 [0, 2, 4, 22] [2] ?_
  exact ⟨_, stB h⟩
 rintro st ⟨u2b, rfl, h⟩
 refine Wc.ci h (fun _ h => ?_) (fun _ h => ?_)
 ·refine Wc.s0 [2, 3] [2] ?_
  cases h; exact Wc.ret dn
 refine Wc.seqJ (fun st => ∃ (u2a : Bool), st = ⟨[tS 0 ur, tP 2 2, tS 4 ur, tB 31 u2a], [bC 2 GOp.z], []⟩ ∧ Zcb k ur u2a = some r) ?_ ?_
 ·refine Wc.s0 [0, 2, 4, 31] [2] ?_
  refine Wc.ci h (fun _ h => ?_) (fun _ h => ?_)
  ·apply Wc.skip
   exact ⟨_, stB h⟩
  refine Wc.k0 [0, 2, 4, 31] [2] ?_
  exact ⟨_, stB h⟩
 rintro st ⟨u2a, rfl, h⟩
 refine Wc.ci h (fun _ h => ?_) (fun _ h => ?_)
 ·refine Wc.s0 [2, 3] [2] ?_
  cases h; exact Wc.ret dn
 apply Wc.seq
 refine Wc.s0 [0, 2, 4, 36] [2] ?_
 refine Wc.ci h (fun _ h => ?_) (fun _ h => ?_)
 ·refine Wc.ks [0, 2, 36] [2] ?_
  refine Wc.ci h (fun _ h => ?_) (fun _ h => ?_)
  ·refine Wc.s0 [2, 3] [2] ?_
   cases h; exact Wc.ret dn
  refine Wc.ks [2] [2] ?_
  refine Wc.s0 [2, 3] [2] ?_
  cases h; exact Wc.ret dn
 refine Wc.k0 [0, 2, 36] [2] ?_
 refine Wc.ci h (fun _ h => ?_) (fun _ h => ?_)
 ·refine Wc.s0 [2, 3] [2] ?_
  cases h; exact Wc.ret dn
 refine Wc.ks [2] [2] ?_
 refine Wc.s0 [2, 3] [2] ?_
 cases h; exact Wc.ret dn

def Z3a (k : Nat) (zy : GXr) (za : Int) (u3b : ByteArray) : Option (GXr × Bool) :=
 if (!zy.gJ) = true then
  if (decide (zy.gAt < (zy.ge.length : Int))) = true then
   (at' zy.ge zy.gAt).bind fun u6z =>
   if (u6z.gi == za) = true then
    if (sEq u3b (bs [])) = true then
     some (zy, true)
    else
     (at' zy.ge zy.gAt).bind fun u70 =>
     some (zy, sEq u70.gE u3b)
   else
    some (zy, false)
  else
   some (zy, false)
 else
  some (zy, false)
theorem Z4r {k : Nat} {zy : GXr} {za : Int} {u3b : ByteArray} {r : GXr × Bool} (h : Z3a k zy za u3b = some r) : FnO Tryz.prog 72 [.p (GXr.k2 zy) (GXr.h4_9f zy), .v (aI za) [], .v (.str u3b) []] (.v (.bool r.2) []) [(0, .p (GXr.k2 r.1) (GXr.h4_9f r.1))] := by
 refine FnO.o2 Tryz.func72 rfl fun _ _ _ _ _ _ => ?_
 unfold Z3a at h
 refine Wc.s0 [0, 1, 2] [1000000] ?_
 apply Wc.seq
 rcases oif h with ⟨h41, h⟩ | ⟨h41, h⟩
 ·rcases oif h with ⟨h42, h⟩ | ⟨h42, h⟩
  ·obtain ⟨u6z, h43, h⟩ := oc h fun u6z h43 => (Z11 (c := Gn.c) (Gn.c_eq u6z) Gn.c_len h43)
   rcases oif h with ⟨h44, h⟩ | ⟨h44, h⟩
   ·rcases oif h with ⟨h45, h⟩ | ⟨h45, h⟩
    ·refine Wc.dk hmix [{}, {}, {}, {}, {}, rT, {}, {}, {}, {}, {}, {}, {}, {}, hL zy.ge, {}, {}, rT, {}, {}, {}, {}, {}, {}, {}, {}, hE h43, {}, {}, {}, {}, {}, rT, {}, {}, rT] [] [6] [1000000] [] (oC (cb h41) (oC (Z2 Gn.c zy.ge) (oC (cb h42) (oC h43 (oC (lenE h43 1) (oC (cb h44) (oC (cb h45) AllP.nil))))))) ?_
     cases h; exact Wc.ret dn
    obtain ⟨u70, h46, h⟩ := oc h fun u70 h46 => (Z11 (c := Gn.c) (Gn.c_eq u70) Gn.c_len h46)
    refine Wc.dk hmix [{}, {}, {}, {}, {}, rT, {}, {}, {}, {}, {}, {}, {}, {}, hL zy.ge, {}, {}, rT, {}, {}, {}, {}, {}, {}, {}, {}, hE h43, {}, {}, {}, {}, {}, rT, {}, {}, rF, {}, {}, {}, {}, {}, {}, {}, {}, hE h46] [] [6] [1000000] [] (oC (cb h41) (oC (Z2 Gn.c zy.ge) (oC (cb h42) (oC h43 (oC (lenE h43 1) (oC (cb h44) (oC (cb h45) (oC h46 (oC (lenD h46 1 1) AllP.nil))))))))) ?_
    cases h; exact Wc.ret dn
   refine Wc.dk hmix [{}, {}, {}, {}, {}, rT, {}, {}, {}, {}, {}, {}, {}, {}, hL zy.ge, {}, {}, rT, {}, {}, {}, {}, {}, {}, {}, {}, hE h43, {}, {}, {}, {}, {}, rF] [] [6] [1000000] [] (oC (cb h41) (oC (Z2 Gn.c zy.ge) (oC (cb h42) (oC h43 (oC (lenE h43 1) (oC (cb h44) AllP.nil)))))) ?_
   cases h; exact Wc.ret dn
  refine Wc.dk hmix [{}, {}, {}, {}, {}, rT, {}, {}, {}, {}, {}, {}, {}, {}, hL zy.ge, {}, {}, rF] [] [6] [1000000] [] (o3 (cb h41) (Z2 Gn.c zy.ge) (cb h42)) ?_
  cases h; exact Wc.ret dn
 refine Wc.dk hmix [{}, {}, {}, {}, {}, rF] [] [6] [1000000] [] (o1 (cb h41)) ?_
 cases h; exact Wc.ret dn

def Z2z (k : Nat) (u4l : GXr) (u71 : ByteArray) : Option (GXr × Bool) :=
 (Z3a k u4l 4 u71).bind fun u4m =>
 if u4m.2 = true then
  some (GXr.mk u4m.1.ge (wr.i64 (u4m.1.gAt + 1)) u4m.1.gJ u4m.1.gO u4m.1.gG, true)
 else
  some (u4m.1, false)
theorem Z4b {k : Nat} {u4l : GXr} {u71 : ByteArray} {r : GXr × Bool} (h : Z2z k u4l u71 = some r) : FnO Tryz.prog 133 [.p (GXr.k2 u4l) (GXr.h4_9f u4l), .v (.str u71) []] (.v (.bool r.2) []) [(0, .p (GXr.k2 r.1) (GXr.h4_9f r.1))] := by
 refine FnO.o2 Tryz.func133 rfl fun _ _ _ _ _ _ => ?_
 unfold Z2z at h
 refine Wc.s0 [0, 1] [1000000] ?_
 apply Wc.seq
 obtain ⟨u4m, h46, h⟩ := oc h fun _ => Z4r
 refine Wc.s2 [{}, {}, hC h46] [0, 7] [1000000] (o1 h46) ?_
 refine Wc.ci h (fun _ h => ?_) (fun _ h => ?_)
 ·refine Wc.s0 [] [1000000] ?_
  refine Wc.s0 [4] [1000000] ?_
  cases h; exact Wc.ret dn
 refine Wc.ks [] [1000000] ?_
 refine Wc.s0 [4] [1000000] ?_
 cases h; exact Wc.ret dn

def Zjb (k : Nat) (u72 : Int) : Option Gt :=
 some (Gt.mk 3 (bs []) u72 [])
theorem Zwp {k : Nat} {u72 : Int} {r : Gt} (h : Zjb k u72 = some r) : FnO Tryz.prog 136 [.v (aI u72) []] (.v (.agg (Gt.q r)) [(3, .app 31)]) [] := by
 refine FnO.o2 Tryz.func136 rfl fun _ _ _ _ _ _ => ?_
 unfold Zjb at h
 refine Wc.s0 [0, 2] [2] ?_
 refine Wc.s1 [{}, {}, hK [4]] [2] [2] ?_
 cases h; exact Wc.ret dn

def Zfs (k : Nat) (u73 : Int) : Option Gt :=
 some (Gt.mk 1 (bs []) u73 [])
theorem Zpk {k : Nat} {u73 : Int} {r : Gt} (h : Zfs k u73 = some r) : FnO Tryz.prog 151 [.v (aI u73) []] (.v (.agg (Gt.q r)) [(3, .app 31)]) [] := by
 refine FnO.o2 Tryz.func151 rfl fun _ _ _ _ _ _ => ?_
 unfold Zfs at h
 refine Wc.s0 [0, 2] [2] ?_
 refine Wc.s1 [{}, {}, hK [4]] [2] [2] ?_
 cases h; exact Wc.ret dn

def Z5u (k : Nat) (vs : GXr) (u0e : ByteArray) : Option (GXr × Gt) :=
 if vs.gG.length + [u0e].length ≤ 1073741824 then
  (Zfs k (wr.i64 (((vs.gG ++ [u0e]).length : Int) - 1))).bind fun u9c =>
  some (GXr.mk vs.ge vs.gAt vs.gJ vs.gO (vs.gG ++ [u0e]), u9c)
 else none
def Z5t (k : Nat) (vs : GXr) (u0e : ByteArray) : Nat → Int → Option (Out (GXr × Gt) Unit)
 | 0, _ => none
 | m + 1, u4n =>
  if (decide (u4n < (vs.gG.length : Int))) = true then
   (at' vs.gG u4n).bind fun u74 =>
   if (sEq u74 u0e) = true then
    (Zfs k u4n).bind fun u51 =>
    some (.ret (vs, u51))
   else
    Z5t k vs u0e m (wr.i64 (u4n + 1))
  else
   some (.done ())
def Z6x (k : Nat) (vs : GXr) (u0e : ByteArray) : Option (GXr × Gt) :=
 if (!(sEq u0e (bs [95]))) = true then
  (Z5t k vs u0e k 0).bind fun out2 => match out2 with
  | .ret r => some r
  | .done () =>
   Z5u k vs u0e
 else
  Z5u k vs u0e
theorem Zf1 {k : Nat} {vs : GXr} {u0e : ByteArray} {r : GXr × Gt} (h : Z6x k vs u0e = some r) : FnO Tryz.prog 137 [.p (GXr.k2 vs) (GXr.h4_9f vs), .v (.str u0e) []] (.v (.agg (Gt.q r.2)) [(3, .app 31)]) [(0, .p (GXr.k2 r.1) (GXr.h4_9f r.1))] := by
 refine FnO.o2 Tryz.func137 rfl fun _ _ _ _ _ _ => ?_
 unfold Z6x at h
 refine Wc.s0 [0, 1, 4] [4, 1000000] ?_
 refine Wc.seqJ (fun st => st = ⟨[tP 0 1000000, tS 1 u0e, tP 4 4], [bX0 4, (1000000, .cells (GXr.k2 vs) (GXr.h4_9f vs))], []⟩ ∧ Z5u k vs u0e = some r) ?_ ?_
 ·refine Wc.s0 [0, 1, 4, 7] [4, 1000000] ?_
  refine Wc.ci h (fun _ h => ?_) (fun _ h => ?_)
  ·refine Wc.s0 [0, 1, 4, 5] [4, 1000000] ?_
   obtain ⟨out2, h85, h⟩ := Z2d h
   refine Wc.lastJ (fun st => out2 = .done () ∧ st = ⟨[tP 0 1000000, tS 1 u0e, tP 4 4], [bX0 4, (1000000, .cells (GXr.k2 vs) (GXr.h4_9f vs))], []⟩) ?_ ?_
   ·apply Wc.block
    refine Wc.loop (fun m st => ∃ (u4n : Int), st = ⟨[tP 0 1000000, tS 1 u0e, tP 4 4, tI 5 u4n], [bX0 4, (1000000, .cells (GXr.k2 vs) (GXr.h4_9f vs))], []⟩ ∧ Z5t k vs u0e m u4n = some out2) ?_ k ⟨_, stB h85⟩
    rintro m st ⟨u4n, rfl, h85⟩
    rcases m with _ | m
    ·exact (Zk h85).elim
    apply Wc.seq
    refine Wc.s2 [{}, {}, {}, {}, {}, hL vs.gG] [0, 1, 4, 5, 14] [4, 1000000] (o1 (Z2 cS vs.gG)) ?_
    refine Wc.ci h85 (fun _ h85 => ?_) (fun _ h85 => ?_)
    ·refine Wc.ks [0, 1, 4, 5] [4, 1000000] ?_
     apply Wc.seq
     apply Wc.block
     obtain ⟨u74, h87, h85⟩ := Z2d h85
     refine Wc.s2 [{}, {}, {}, {}, {}, {}, { v := some (.str u74) }] [0, 1, 4, 5, 25] [4, 1000000] (o2 (Zhj (c := cS) Zau h87) (Zp2 (sz := 1) (off := 0) (s := 1) (ag := false) (v := .str u74) (c := cS) rfl (Z5y h87).2 rfl (Nat.le_of_ble_eq_true rfl) rfl)) ?_
     refine Wc.ci h85 (fun _ h85 => ?_) (fun _ h85 => ?_)
     ·obtain ⟨u51, h89, h85⟩ := oc h85 fun _ => Zpk
      refine Wc.s2 [{}, hC h89, hK [27]] [4] [4, 1000000] (o1 h89) ?_
      cases h85; cases h; exact Wc.ret dn
     refine Wc.ks [0, 1, 4, 5] [4, 1000000] ?_
     refine Wc.k0 [0, 1, 4, 5] [4, 1000000] ?_
     exact ⟨_, Nat.lt_succ_self _, _, stB h85⟩
    refine Wc.ke [0, 1, 4] [4, 1000000] ?_
    cases h85; exact ⟨rfl, by kernel_rfl⟩
   rintro st ⟨rfl, rfl⟩
   exact stB h
  refine Wc.ks [0, 1, 4] [4, 1000000] ?_
  exact stB h
 rintro st ⟨rfl, h⟩
 have h79 := (cR cS [u0e])
 obtain ⟨h80, h⟩ := Z4 h
 have h81 := (Z30 cS vs.gG [u0e])
 refine Wc.s2 [{}, {}, {}, {}, hM 1, {}, hB h79, { hB h81 with tk := [32], md := 1 }, {}, {}, hK [35]] [0, 4] [4, 1000000] (oC h79 (oA h81 Zh5 Zau h80 AllP.nil)) ?_
 obtain ⟨u9c, h82, h⟩ := oc h fun _ => Zpk
 refine Wc.s2 [{}, {}, {}, {}, hL (vs.gG ++ [u0e]), {}, hC h82, hK [44]] [4] [4, 1000000] (o2 (Z2 cS (vs.gG ++ [u0e])) h82) ?_
 cases h; exact Wc.ret dn

def Z4i (k : Nat) (u4o : GXr) (u75 : ByteArray) : Option GXr :=
 (Z2z k u4o u75).bind fun u8m =>
 if (!u8m.2) = true then
  none
 else
  some u8m.1
theorem Z6v {k : Nat} {u4o : GXr} {u75 : ByteArray} {r : GXr} (h : Z4i k u4o u75 = some r) : FnO Tryz.prog 150 [.p (GXr.k2 u4o) (GXr.h4_9f u4o), .v (.str u75) []] (.v (.tup []) []) [(0, .p (GXr.k2 r) (GXr.h4_9f r))] := by
 refine FnO.o2 Tryz.func150 rfl fun _ _ _ _ _ _ => ?_
 unfold Z4i at h
 obtain ⟨u8m, h72, h⟩ := oc h fun _ => Z4b
 refine Wc.s2 [{}, {}, hC h72] [7] [1000000] (o1 h72) ?_
 refine Wc.ci h (fun _ h => ?_) (fun _ h => ?_)
 ·exact (Zk h).elim
 refine Wc.ks [] [1000000] ?_
 cases h; exact ⟨(by first | exact .inl rfl | exact .inr rfl), by kernel_rfl, by kernel_rfl⟩

def Zdb (k : Nat) (u76 : ByteArray) (u5c : Gt) (u5d : Gt) : Option Gt :=
 some (Gt.mk 4 u76 0 [u5c, u5d])
theorem Zkl {k : Nat} {u76 : ByteArray} {u5c : Gt} {u5d : Gt} {r : Gt} (h : Zdb k u76 u5c u5d = some r) : FnO Tryz.prog 30 [.v (.str u76) [], .v (.agg (Gt.q u5c)) [], .v (.agg (Gt.q u5d)) []] (.v (.agg (Gt.q r)) [(3, .app 31)]) [] := by
 refine FnO.o2 Tryz.func30 rfl fun _ _ _ _ _ _ => ?_
 unfold Zdb at h
 refine Wc.s0 [0, 4, 5, 6] [4, 5, 6] ?_
 have h114 := (Z1l (c := Gt.c) (x := u5c) (Gt.c_eq u5c) (Z1l (c := Gt.c) (x := u5d) (Gt.c_eq u5d) (Z2s Gt.c)))
 refine Wc.s2 [{}, {}, {}, hB h114, hK [10], hK [11]] [6] [6] (o1 h114) ?_
 cases h; exact Wc.ret dn

def Z6y (k : Nat) (u5s : Bool) (u2z : GXr) : Option (GXr × GOp × Bool) :=
 if u5s = true then
  (at' u2z.ge u2z.gAt).bind fun u77 =>
  (Zbo k u77.gE).bind fun u8n =>
  some (u2z, u8n.1, u8n.2)
 else
  some (u2z, GOp.mk (bs []) 0 0 0, false)
def Z94 (k : Nat) (u4p : GXr) : Option (GXr × GOp × Bool) :=
 (Z3a k u4p 4 (bs [44])).bind fun u78 =>
 if u78.2 = true then
  (Zbo k (bs [44])).bind fun u8o =>
  some (u78.1, u8o.1, u8o.2)
 else
  (Z3a k u78.1 1 (bs [])).bind fun u5e =>
  if u5e.2 = true then
   (at' u5e.1.ge u5e.1.gAt).bind fun u79 =>
   Z6y k (!u79.gQ) u5e.1
  else
   Z6y k false u5e.1
theorem Zi7 {k : Nat} {u4p : GXr} {r : GXr × GOp × Bool} (h : Z94 k u4p = some r) : FnO Tryz.prog 108 [.p (GXr.k2 u4p) (GXr.h4_9f u4p)] (.v (.tup [.agg (GOp.q r.2.1), .bool r.2.2]) []) [(0, .p (GXr.k2 r.1) (GXr.h4_9f r.1))] := by
 refine FnO.o2 Tryz.func108 rfl fun _ _ _ _ _ _ => ?_
 unfold Z94 at h
 refine Wc.s0 [0, 2] [2, 1000000] ?_
 apply Wc.seq
 obtain ⟨u78, h135, h⟩ := oc h fun _ => Z4r
 refine Wc.s2 [{}, hC h135] [0, 2, 5] [2, 1000000] (o1 h135) ?_
 refine Wc.ci h (fun _ h => ?_) (fun _ h => ?_)
 ·obtain ⟨u8o, h138, h⟩ := oc h fun _ => Zh8
  refine Wc.s2 [hC h138] [2, 3] [2, 1000000] (o1 h138) ?_
  cases h; exact Wc.ret dn
 refine Wc.ks [0, 2] [2, 1000000] ?_
 apply Wc.seq
 refine Wc.seqJ (fun st => ∃ (u5s : Bool) (u2z : GXr), st = ⟨[tP 0 1000000, tP 2 2, tB 24 u5s], [bC 2 GOp.z, (1000000, .cells (GXr.k2 u2z) (GXr.h4_9f u2z))], []⟩ ∧ Z6y k u5s u2z = some r) ?_ ?_
 ·obtain ⟨u5e, h145, h⟩ := oc h fun _ => Z4r
  rcases oif h with ⟨h146, h⟩ | ⟨h146, h⟩
  ·obtain ⟨u79, h147, h⟩ := oc h fun u79 h147 => (Z11 (c := Gn.c) (Gn.c_eq u79) Gn.c_len h147)
   refine Wc.dk hmix [{}, hC h145, rT, {}, {}, {}, {}, {}, {}, {}, {}, hE h147] [] [0, 2, 24] [2, 1000000] [] (o4 h145 (cb h146) h147 (lenD h147 4 1)) ?_
   exact ⟨_, _, stB h⟩
  refine Wc.dk hmix [{}, hC h145, rF] [] [0, 2, 24] [2, 1000000] [] (o2 h145 (cb h146)) ?_
  exact ⟨_, _, stB h⟩
 rintro st ⟨u5s, u2z, rfl, h⟩
 refine Wc.ci h (fun _ h => ?_) (fun _ h => ?_)
 ·apply Wc.seq
  obtain ⟨u77, h141, h⟩ := oc h fun u77 h141 => (Z11 (c := Gn.c) (Gn.c_eq u77) Gn.c_len h141)
  obtain ⟨u8n, h142, h⟩ := oc h fun _ => Zh8
  refine Wc.dk hmix [{}, {}, {}, {}, {}, {}, {}, {}, hE h141, {}, {}, hC h142] [] [2, 3] [2, 1000000] [] (o3 h141 (lenD h141 1 1) h142) ?_
  cases h; exact Wc.ret dn
 refine Wc.ks [2] [2, 1000000] ?_
 refine Wc.s0 [2, 3] [2, 1000000] ?_
 cases h; exact Wc.ret dn

def Z7j (k : Nat) (Z1d : GXr → Int → Option (GXr × Gt × Int)) (Z12 : GXr → Int → Option (GXr × Gt × Int)) (Z18 : GXr → Option (GXr × Gt)) (Z1j : GXr → Option (GXr × Gt)) (Z1c : GXr → ByteArray → Option (GXr × Gt)) (Zn : GXr → Int → Option (GXr × Gt)) (zz : GXr) (u30 : GOp × Bool) (u0r : Gn) (u5t : Bool) : Option (GXr × Gt × Int) :=
 if u5t = true then
  (Zn (GXr.mk zz.ge (wr.i64 (zz.gAt + 1)) zz.gJ zz.gO zz.gG) u30.1.gX).bind fun u5u =>
  some (u5u.1, Gt.mk 4 u0r.gE 0 [u5u.2], u30.1.gV)
 else
  (Zbo k u0r.gE).bind fun u9d =>
  if u30.2 = true then
   none
  else
   if u9d.2 = true then
    none
   else
    (Z9p k u0r.gE).bind fun u9e =>
    some (GXr.mk zz.ge (wr.i64 (zz.gAt + 1)) zz.gJ zz.gO zz.gG, u9e, 0)
def Z7k (k : Nat) (Z1d : GXr → Int → Option (GXr × Gt × Int)) (Z12 : GXr → Int → Option (GXr × Gt × Int)) (Z18 : GXr → Option (GXr × Gt)) (Z1j : GXr → Option (GXr × Gt)) (Z1c : GXr → ByteArray → Option (GXr × Gt)) (Zn : GXr → Int → Option (GXr × Gt)) (u0r : Gn) (u2c : Int) (zz : GXr) : Option (GXr × Gt × Int) :=
 (Zeo k u0r.gE).bind fun u30 =>
 if u30.2 = true then
  Z7j k Z1d Z12 Z18 Z1j Z1c Zn zz u30 u0r (decide (u30.1.gV ≤ u2c))
 else
  Z7j k Z1d Z12 Z18 Z1j Z1c Zn zz u30 u0r false
def Z49 (k : Nat) (Z1d : GXr → Int → Option (GXr × Gt × Int)) (Z12 : GXr → Int → Option (GXr × Gt × Int)) (Z18 : GXr → Option (GXr × Gt)) (Z1j : GXr → Option (GXr × Gt)) (Z1c : GXr → ByteArray → Option (GXr × Gt)) (Zn : GXr → Int → Option (GXr × Gt)) (u40 : GXr) : Option (GXr × Gt) :=
 (Zn u40 1200).bind fun u8p =>
 (Z4i k u8p.1 (bs [41])).bind fun u9f =>
 some (u9f, u8p.2)
def Z84 (k : Nat) (Z1d : GXr → Int → Option (GXr × Gt × Int)) (Z12 : GXr → Int → Option (GXr × Gt × Int)) (Z18 : GXr → Option (GXr × Gt)) (Z1j : GXr → Option (GXr × Gt)) (Z1c : GXr → ByteArray → Option (GXr × Gt)) (Zn : GXr → Int → Option (GXr × Gt)) (u4q : Gt) : Nat → (List Gt) → GXr → Option (Out (GXr × Gt) ((List Gt) × Gt × GXr))
 | 0, _, _ => none
 | m + 1, u3u, u3c =>
  if (!u3c.gJ) = true then
   (Zn u3c 999).bind fun u41 =>
   if u3u.length + [u41.2].length ≤ 1073741824 then
    (Z2z k u41.1 (bs [93])).bind fun u7a =>
    if u7a.2 = true then
     some (.done (u3u ++ [u41.2], u4q, u7a.1))
    else
     (Z2z k u7a.1 (bs [124])).bind fun u7b =>
     if u7b.2 = true then
      (Zn u7b.1 999).bind fun u8q =>
      (Z4i k u8q.1 (bs [93])).bind fun u9g =>
      some (.done (u3u ++ [u41.2], u8q.2, u9g))
     else
      (Z4i k u7b.1 (bs [44])).bind fun u9h =>
      Z84 k Z1d Z12 Z18 Z1j Z1c Zn u4q m (u3u ++ [u41.2]) u9h
   else none
  else
   some (.done (u3u, u4q, u3c))
def Z83 (k : Nat) (Z1d : GXr → Int → Option (GXr × Gt × Int)) (Z12 : GXr → Int → Option (GXr × Gt × Int)) (Z18 : GXr → Option (GXr × Gt)) (Z1j : GXr → Option (GXr × Gt)) (Z1c : GXr → ByteArray → Option (GXr × Gt)) (Zn : GXr → Int → Option (GXr × Gt)) (u2n : List Gt) : Nat → Int → Gt → Option (Out (GXr × Gt) Gt)
 | 0, _, _ => none
 | m + 1, u52, u5f =>
  if (decide (u52 ≥ 0)) = true then
   (at' u2n u52).bind fun u7c =>
   (Zdb k (bs [46]) u7c u5f).bind fun u9i =>
   Z83 k Z1d Z12 Z18 Z1j Z1c Zn u2n m (wr.i64 (u52 - 1)) u9i
  else
   some (.done u5f)
def Z7i (k : Nat) (Z1d : GXr → Int → Option (GXr × Gt × Int)) (Z12 : GXr → Int → Option (GXr × Gt × Int)) (Z18 : GXr → Option (GXr × Gt)) (Z1j : GXr → Option (GXr × Gt)) (Z1c : GXr → ByteArray → Option (GXr × Gt)) (Zn : GXr → Int → Option (GXr × Gt)) : Nat → Gt → GXr → Option (Out (GXr × Gt) (Gt × GXr))
 | 0, _, _ => none
 | m + 1, u14, u3d =>
  if (!u3d.gJ) = true then
   (Zn u3d 999).bind fun u4r =>
   if (decide ((u14.ga.length : Int) ≥ 5)) = true then
    none
   else
    if u14.ga.length + [u4r.2].length ≤ 1073741824 then
     (Z2z k u4r.1 (bs [41])).bind fun u7d =>
     if u7d.2 = true then
      some (.done (Gt.mk u14.gi u14.gn u14.gj (u14.ga ++ [u4r.2]), u7d.1))
     else
      (Z4i k u7d.1 (bs [44])).bind fun u9j =>
      Z7i k Z1d Z12 Z18 Z1j Z1c Zn m (Gt.mk u14.gi u14.gn u14.gj (u14.ga ++ [u4r.2])) u9j
    else none
  else
   some (.done (u14, u3d))
def Z7h (k : Nat) (Z1d : GXr → Int → Option (GXr × Gt × Int)) (Z12 : GXr → Int → Option (GXr × Gt × Int)) (Z18 : GXr → Option (GXr × Gt)) (Z1j : GXr → Option (GXr × Gt)) (Z1c : GXr → ByteArray → Option (GXr × Gt)) (Zn : GXr → Int → Option (GXr × Gt)) (u1x : Int) : Nat → Int → Gt → GXr → Option (Out (GXr × Gt) (Gt × GXr))
 | 0, _, _, _ => none
 | m + 1, u5v, u42, u3e =>
  if (!u3e.gJ) = true then
   (Z94 k u3e).bind fun u1y =>
   if (!u1y.2.2) = true then
    some (.done (u42, u1y.1))
   else
    if (decide (u1y.2.1.gV > u1x)) = true then
     some (.done (u42, u1y.1))
    else
     if (decide (u1y.2.1.gF < u5v)) = true then
      some (.done (u42, u1y.1))
     else
      (Zn (GXr.mk u1y.1.ge (wr.i64 (u1y.1.gAt + 1)) u1y.1.gJ u1y.1.gO u1y.1.gG) u1y.2.1.gX).bind fun u8r =>
      (Zdb k u1y.2.1.gn u42 u8r.2).bind fun u9k =>
      Z7h k Z1d Z12 Z18 Z1j Z1c Zn u1x m u1y.2.1.gV u9k u8r.1
  else
   some (.done (u42, u3e))
mutual
def Zu : Nat → GXr → Int → Option (GXr × Gt × Int)
 | 0, _, _ => none
 | k + 1, u05, u2c =>
  (at' u05.ge u05.gAt).bind fun u0r =>
  if u0r.gQ = true then
   (Zt k (GXr.mk u05.ge (wr.i64 (u05.gAt + 2)) u05.gJ u05.gO u05.gG) u0r.gE).bind fun u8s =>
   some (u8s.1, u8s.2, 0)
  else
   if (sEq u0r.gE (bs [45])) = true then
    (Zaa k u05).bind fun u8t =>
    if u8t.2 = true then
     none
    else
     Z7k k (Zu k) (Zd k) (Zm k) (Zx k) (Zt k) (Zq k) u0r u2c u8t.1
   else
    Z7k k (Zu k) (Zd k) (Zm k) (Zx k) (Zt k) (Zq k) u0r u2c u05
def Zd : Nat → GXr → Int → Option (GXr × Gt × Int)
 | 0, _, _ => none
 | k + 1, u1e, u43 =>
  (Z3a k u1e 1 (bs [])).bind fun u7e =>
  if u7e.2 = true then
   (Zu k u7e.1 u43).bind fun u7f =>
   some (u7f.1, u7f.2.1, u7f.2.2)
  else
   (Z2z k u7e.1 (bs [40])).bind fun u7g =>
   if u7g.2 = true then
    (Zm k u7g.1).bind fun u8u =>
    some (u8u.1, u8u.2, 0)
   else
    (Z2z k u7g.1 (bs [91])).bind fun u7h =>
    if u7h.2 = true then
     (Zx k u7h.1).bind fun u8v =>
     some (u8v.1, u8v.2, 0)
    else
     (Z3a k u7h.1 3 (bs [])).bind fun u3v =>
     if u3v.2 = true then
      (at' u3v.1.ge (wr.i64 ((wr.i64 (u3v.1.gAt + 1)) - 1))).bind fun u7i =>
      (Zjb k u7i.gj).bind fun u9l =>
      some (GXr.mk u3v.1.ge (wr.i64 (u3v.1.gAt + 1)) u3v.1.gJ u3v.1.gO u3v.1.gG, u9l, 0)
     else
      (Z3a k u3v.1 2 (bs [])).bind fun u44 =>
      if u44.2 = true then
       (at' u44.1.ge (wr.i64 ((wr.i64 (u44.1.gAt + 1)) - 1))).bind fun u7j =>
       (Z6x k (GXr.mk u44.1.ge (wr.i64 (u44.1.gAt + 1)) u44.1.gJ u44.1.gO u44.1.gG) u7j.gE).bind fun u8w =>
       some (u8w.1, u8w.2, 0)
      else
       none
def Zm : Nat → GXr → Option (GXr × Gt)
 | 0, _ => none
 | k + 1, u1f =>
  (Z3a k u1f 1 (bs [])).bind fun u15 =>
  if u15.2 = true then
   if (decide ((wr.i64 (u15.1.gAt + 1)) < (u15.1.ge.length : Int))) = true then
    (at' u15.1.ge (wr.i64 (u15.1.gAt + 1))).bind fun u7k =>
    if (u7k.gi == 4) = true then
     (at' u15.1.ge (wr.i64 (u15.1.gAt + 1))).bind fun u7l =>
     if (sEq u7l.gE (bs [41])) = true then
      none
     else
      Z49 k (Zu k) (Zd k) (Zm k) (Zx k) (Zt k) (Zq k) u15.1
    else
     Z49 k (Zu k) (Zd k) (Zm k) (Zx k) (Zt k) (Zq k) u15.1
   else
    Z49 k (Zu k) (Zd k) (Zm k) (Zx k) (Zt k) (Zq k) u15.1
  else
   Z49 k (Zu k) (Zd k) (Zm k) (Zx k) (Zt k) (Zq k) u15.1
def Zx : Nat → GXr → Option (GXr × Gt)
 | 0, _ => none
 | k + 1, u1g =>
  (Z2z k u1g (bs [93])).bind fun u7m =>
  if u7m.2 = true then
   (Z9p k (bs [91, 93])).bind fun u9m =>
   some (u7m.1, u9m)
  else
   (Z9p k (bs [91, 93])).bind fun u4q =>
   (Z84 k (Zu k) (Zd k) (Zm k) (Zx k) (Zt k) (Zq k) u4q k [] u7m.1).bind fun out1 => match out1 with
   | .ret r => some r
   | .done (u2n, u5w, u0x) =>
    (Z83 k (Zu k) (Zd k) (Zm k) (Zx k) (Zt k) (Zq k) u2n k (wr.i64 ((u2n.length : Int) - 1)) u5w).bind fun out2 => match out2 with
    | .ret r => some r
    | .done u5x =>
     some (u0x, u5x)
def Zt : Nat → GXr → ByteArray → Option (GXr × Gt)
 | 0, _, _ => none
 | k + 1, u1h, u45 =>
  (Z7i k (Zu k) (Zd k) (Zm k) (Zx k) (Zt k) (Zq k) k (Gt.mk 4 u45 0 []) u1h).bind fun out1 => match out1 with
  | .ret r => some r
  | .done (u5y, u46) =>
   some (u46, u5y)
def Zq : Nat → GXr → Int → Option (GXr × Gt)
 | 0, _, _ => none
 | k + 1, u0f, u1x =>
  if u0f.gJ = true then
   none
  else
   if (decide ((wr.i64 (u0f.gO + 1)) > 130)) = true then
    none
   else
    (Zd k (GXr.mk u0f.ge u0f.gAt u0f.gJ (wr.i64 (u0f.gO + 1)) u0f.gG) u1x).bind fun u7n =>
    (Z7h k (Zu k) (Zd k) (Zm k) (Zx k) (Zt k) (Zq k) u1x k u7n.2.2 u7n.2.1 u7n.1).bind fun out1 => match out1 with
    | .ret r => some r
    | .done (u5z, u2o) =>
     some (GXr.mk u2o.ge u2o.gAt u2o.gJ (wr.i64 (u2o.gO - 1)) u2o.gG, u5z)
end
set_option maxHeartbeats 4000000 in
theorem Zf6 : ∀ k : Nat, (∀ {u05 : GXr} {u2c : Int} {r : GXr × Gt × Int}, Zu k u05 u2c = some r → FnO Tryz.prog 132 [.p (GXr.k2 u05) (GXr.h4_9f u05), .v (aI u2c) []] (.v (.tup [.agg (Gt.q r.2.1), aI r.2.2]) []) [(0, .p (GXr.k2 r.1) (GXr.h4_9f r.1))]) ∧
  (∀ {u1e : GXr} {u43 : Int} {r : GXr × Gt × Int}, Zd k u1e u43 = some r → FnO Tryz.prog 107 [.p (GXr.k2 u1e) (GXr.h4_9f u1e), .v (aI u43) []] (.v (.tup [.agg (Gt.q r.2.1), aI r.2.2]) []) [(0, .p (GXr.k2 r.1) (GXr.h4_9f r.1))]) ∧
  (∀ {u1f : GXr} {r : GXr × Gt}, Zm k u1f = some r → FnO Tryz.prog 134 [.p (GXr.k2 u1f) (GXr.h4_9f u1f)] (.v (.agg (Gt.q r.2)) []) [(0, .p (GXr.k2 r.1) (GXr.h4_9f r.1))]) ∧
  (∀ {u1g : GXr} {r : GXr × Gt}, Zx k u1g = some r → FnO Tryz.prog 135 [.p (GXr.k2 u1g) (GXr.h4_9f u1g)] (.v (.agg (Gt.q r.2)) []) [(0, .p (GXr.k2 r.1) (GXr.h4_9f r.1))]) ∧
  (∀ {u1h : GXr} {u45 : ByteArray} {r : GXr × Gt}, Zt k u1h u45 = some r → FnO Tryz.prog 147 [.p (GXr.k2 u1h) (GXr.h4_9f u1h), .v (.str u45) []] (.v (.agg (Gt.q r.2)) [(3, .app 31)]) [(0, .p (GXr.k2 r.1) (GXr.h4_9f r.1))]) ∧
  (∀ {u0f : GXr} {u1x : Int} {r : GXr × Gt}, Zq k u0f u1x = some r → FnO Tryz.prog 71 [.p (GXr.k2 u0f) (GXr.h4_9f u0f), .v (aI u1x) []] (.v (.agg (Gt.q r.2)) []) [(0, .p (GXr.k2 r.1) (GXr.h4_9f r.1))]) := by
 intro k
 induction k with
 | zero =>
  refine ⟨?_, ?_, ?_, ?_, ?_, ?_⟩
  ·intro u05 u2c r h
   exact (Zk (by rw [Zu] at h; exact h)).elim
  ·intro u1e u43 r h
   exact (Zk (by rw [Zd] at h; exact h)).elim
  ·intro u1f r h
   exact (Zk (by rw [Zm] at h; exact h)).elim
  ·intro u1g r h
   exact (Zk (by rw [Zx] at h; exact h)).elim
  ·intro u1h u45 r h
   exact (Zk (by rw [Zt] at h; exact h)).elim
  ·intro u0f u1x r h
   exact (Zk (by rw [Zq] at h; exact h)).elim
 | succ k ih =>
  obtain ⟨Zg2, Zdj, Zet, Zgx, Zg1, Z3n⟩ := ih
  refine ⟨?_, ?_, ?_, ?_, ?_, ?_⟩
  ·intro u05 u2c r h
   rw [Zu] at h
   refine FnO.o2 Tryz.func132 rfl fun _ _ _ _ _ _ => ?_
   refine Wc.s0 [0, 1, 4] [4, 1000000] ?_
   apply Wc.seq
   obtain ⟨u0r, h145, h⟩ := oc h fun u0r h145 => (Z11 (c := Gn.c) (Gn.c_eq u0r) Gn.c_len h145)
   refine Wc.dk hmix [{}, {}, {}, {}, {}, {}, {}, {}, hE h145] [] [0, 1, 4, 6] [4, 6, 1000000] [] (o2 h145 (lenE h145 5)) ?_
   apply Wc.seq
   refine Wc.s0 [0, 1, 4, 6, 23] [4, 6, 1000000] ?_
   refine Wc.ci h (fun _ h => ?_) (fun _ h => ?_)
   ·refine Wc.s0 [0, 4, 6] [4, 6, 1000000] ?_
    obtain ⟨u8s, h148, h⟩ := oc h fun _ => Zg1
    refine Wc.s2 [{}, {}, {}, hC h148, hK [35]] [4, 5] [4, 1000000] (o1 h148) ?_
    refine Wc.fk [.un (.b 4 3)] [4, 5] [4, 1000000] [] ?_
    cases h; exact Wc.ret dn
   refine Wc.ks [0, 1, 4, 6] [4, 6, 1000000] ?_
   refine Wc.seqJ (fun st => ∃ (zz : GXr), st = ⟨[tP 0 1000000, tI 1 u2c, tP 4 4, tP 6 6], [bX0 4, bC 6 (Gn.q u0r), (1000000, .cells (GXr.k2 zz) (GXr.h4_9f zz))], []⟩ ∧ Z7k k (Zu k) (Zd k) (Zm k) (Zx k) (Zt k) (Zq k) u0r u2c zz = some r) ?_ ?_
   ·rcases oif h with ⟨h163, h⟩ | ⟨h163, h⟩
    ·obtain ⟨u8t, h164, h⟩ := oc h fun _ => Zkj
     refine Wc.s2 [{}, {}, {}, rT, {}, hC h164] [0, 1, 4, 6, 42] [4, 6, 1000000] (o2 (cb h163) h164) ?_
     refine Wc.ci h (fun _ h => ?_) (fun _ h => ?_)
     ·exact (Zk h).elim
     refine Wc.ks [0, 1, 4, 6] [4, 6, 1000000] ?_
     exact ⟨_, stB h⟩
    refine Wc.s2 [{}, {}, {}, rF] [0, 1, 4, 6, 42] [4, 6, 1000000] (o1 (cb h163)) ?_
    refine Wc.cF rfl ?_
    refine Wc.ks [0, 1, 4, 6] [4, 6, 1000000] ?_
    exact ⟨_, stB h⟩
   rintro st ⟨zz, rfl, h⟩
   obtain ⟨u30, h150, h⟩ := oc h fun _ => Zra
   refine Wc.s2 [{}, {}, hC h150] [0, 1, 4, 6, 7, 8] [4, 6, 7, 1000000] (o1 h150) ?_
   apply Wc.seq
   refine Wc.seqJ (fun st => ∃ (u5t : Bool), st = ⟨[tP 0 1000000, tP 4 4, tP 6 6, tP 7 7, tB 8 u30.2, tB 77 u5t], [bX0 4, bC 6 (Gn.q u0r), bC 7 (GOp.q u30.1), (1000000, .cells (GXr.k2 zz) (GXr.h4_9f zz))], []⟩ ∧ Z7j k (Zu k) (Zd k) (Zm k) (Zx k) (Zt k) (Zq k) zz u30 u0r u5t = some r) ?_ ?_
   ·rcases oif h with ⟨h162, h⟩ | ⟨h162, h⟩
    ·refine Wc.k2 [{}, rT] [0, 4, 6, 7, 8, 77] [4, 6, 7, 1000000] (o1 (cb h162)) ?_
     exact ⟨_, stB h⟩
    refine Wc.k2 [{}, rF] [0, 4, 6, 7, 8, 77] [4, 6, 7, 1000000] (o1 (cb h162)) ?_
    exact ⟨_, stB h⟩
   rintro st ⟨u5t, rfl, h⟩
   refine Wc.ci h (fun _ h => ?_) (fun _ h => ?_)
   ·refine Wc.s0 [0, 4, 6, 7] [4, 6, 7, 1000000] ?_
    obtain ⟨u5u, h153, h⟩ := oc h fun _ => Z3n
    refine Wc.s2 [{}, {}, {}, hC h153] [4, 6, 7, 9] [4, 6, 7, 9, 1000000] (o1 h153) ?_
    apply Wc.seq
    have h155 := (Z1l (c := Gt.c) (x := u5u.2) (Gt.c_eq u5u.2) (Z2s Gt.c))
    refine Wc.dk hmix [{}, {}, {}, hB h155, hK [93], {}, {}, hK [94]] [] [4, 5] [4, 1000000] [] (o1 h155) ?_
    refine Wc.fk [.un (.b 4 3)] [4, 5] [4, 1000000] [] ?_
    cases h; exact Wc.ret dn
   refine Wc.ks [0, 4, 6, 8] [4, 6, 1000000] ?_
   obtain ⟨u9d, h156, h⟩ := oc h fun _ => Zh8
   refine Wc.s2 [{}, {}, hC h156] [0, 4, 6, 8, 11] [4, 6, 1000000] (o1 h156) ?_
   apply Wc.seq
   rcases oif h with ⟨h158, h⟩ | ⟨h158, h⟩
   ·refine Wc.s2 [{}, rT] [0, 4, 6, 106] [4, 6, 1000000] (o1 (cb h158)) ?_
    refine Wc.cT rfl ?_
    exact (Zk h).elim
   refine Wc.s2 [{}, rF] [0, 4, 6, 106] [4, 6, 1000000] (o1 (cb h158)) ?_
   refine Wc.ci h (fun _ h => ?_) (fun _ h => ?_)
   ·exact (Zk h).elim
   refine Wc.ks [0, 4, 6] [4, 6, 1000000] ?_
   refine Wc.s0 [4, 6] [4, 6, 1000000] ?_
   obtain ⟨u9e, h160, h⟩ := oc h fun _ => Zeb
   refine Wc.s2 [{}, {}, hC h160, hK [121]] [4, 5] [4, 1000000] (o1 h160) ?_
   refine Wc.fk [.un (.b 4 3)] [4, 5] [4, 1000000] [] ?_
   cases h; exact Wc.ret dn
  ·intro u1e u43 r h
   rw [Zd] at h
   refine FnO.o2 Tryz.func107 rfl fun _ _ _ _ _ _ => ?_
   refine Wc.s0 [0, 1, 4] [4, 1000000] ?_
   apply Wc.seq
   apply Wc.block
   obtain ⟨u7e, h167, h⟩ := oc h fun _ => Z4r
   refine Wc.s2 [{}, hC h167] [0, 1, 4, 6] [4, 1000000] (o1 h167) ?_
   refine Wc.ci h (fun _ h => ?_) (fun _ h => ?_)
   ·obtain ⟨u7f, h170, h⟩ := oc h fun _ => Zg2
    refine Wc.s2 [{}, {}, hC h170] [4, 5] [4, 1000000] (o1 h170) ?_
    cases h; exact Wc.ret dn
   obtain ⟨u7g, h172, h⟩ := oc h fun _ => Z4b
   refine Wc.s2 [{}, hC h172] [0, 4, 14] [4, 1000000] (o1 h172) ?_
   refine Wc.ci h (fun _ h => ?_) (fun _ h => ?_)
   ·obtain ⟨u8u, h175, h⟩ := oc h fun _ => Zet
    refine Wc.s2 [{}, hC h175] [4, 5] [4, 1000000] (o1 h175) ?_
    cases h; exact Wc.ret dn
   obtain ⟨u7h, h177, h⟩ := oc h fun _ => Z4b
   refine Wc.s2 [{}, hC h177] [0, 4, 19] [4, 1000000] (o1 h177) ?_
   refine Wc.ci h (fun _ h => ?_) (fun _ h => ?_)
   ·obtain ⟨u8v, h180, h⟩ := oc h fun _ => Zgx
    refine Wc.s2 [{}, hC h180] [4, 5] [4, 1000000] (o1 h180) ?_
    cases h; exact Wc.ret dn
   obtain ⟨u3v, h182, h⟩ := oc h fun _ => Z4r
   refine Wc.s2 [{}, hC h182] [0, 4, 24] [4, 1000000] (o1 h182) ?_
   refine Wc.ci h (fun _ h => ?_) (fun _ h => ?_)
   ·refine Wc.s0 [0, 4] [4, 1000000] ?_
    apply Wc.seq
    obtain ⟨u7i, h185, h⟩ := oc h fun u7i h185 => (Z11 (c := Gn.c) (Gn.c_eq u7i) Gn.c_len h185)
    obtain ⟨u9l, h186, h⟩ := oc h fun _ => Zwp
    refine Wc.dk hmix [{}, {}, {}, {}, {}, {}, {}, {}, {}, hE h185, {}, {}, hC h186, hK [47]] [] [4, 5] [4, 1000000] [] (o3 h185 (lenD h185 2 1) h186) ?_
    refine Wc.fk [.un (.b 4 3)] [4, 5] [4, 1000000] [] ?_
    cases h; exact Wc.ret dn
   obtain ⟨u44, h189, h⟩ := oc h fun _ => Z4r
   refine Wc.s2 [{}, hC h189] [0, 4, 48] [4, 1000000] (o1 h189) ?_
   refine Wc.ci h (fun _ h => ?_) (fun _ h => ?_)
   ·refine Wc.s0 [0, 4] [4, 1000000] ?_
    apply Wc.seq
    obtain ⟨u7j, h192, h⟩ := oc h fun u7j h192 => (Z11 (c := Gn.c) (Gn.c_eq u7j) Gn.c_len h192)
    obtain ⟨u8w, h193, h⟩ := oc h fun _ => Zf1
    refine Wc.dk hmix [{}, {}, {}, {}, {}, {}, {}, {}, {}, {}, hE h192, {}, {}, hC h193, hK [72]] [] [4, 5] [4, 1000000] [] (o3 h192 (lenD h192 1 1) h193) ?_
    refine Wc.fk [.un (.b 4 3)] [4, 5] [4, 1000000] [] ?_
    cases h; exact Wc.ret dn
   refine Wc.ks [] [1000000] ?_
   exact (Zk h).elim
  ·intro u1f r h
   rw [Zm] at h
   refine FnO.o2 Tryz.func134 rfl fun _ _ _ _ _ _ => ?_
   refine Wc.s0 [0, 2] [2, 1000000] ?_
   refine Wc.seqJ (fun st => ∃ (u40 : GXr), st = ⟨[tP 0 1000000, tP 2 2], [bX0 2, (1000000, .cells (GXr.k2 u40) (GXr.h4_9f u40))], []⟩ ∧ Z49 k (Zu k) (Zd k) (Zm k) (Zx k) (Zt k) (Zq k) u40 = some r) ?_ ?_
   ·apply Wc.seq
    obtain ⟨u15, h200, h⟩ := oc h fun _ => Z4r
    rcases oif h with ⟨h201, h⟩ | ⟨h201, h⟩
    ·rcases oif h with ⟨h202, h⟩ | ⟨h202, h⟩
     ·obtain ⟨u7k, h203, h⟩ := oc h fun u7k h203 => (Z11 (c := Gn.c) (Gn.c_eq u7k) Gn.c_len h203)
      rcases oif h with ⟨h204, h⟩ | ⟨h204, h⟩
      ·obtain ⟨u7l, h205, h⟩ := oc h fun u7l h205 => (Z11 (c := Gn.c) (Gn.c_eq u7l) Gn.c_len h205)
       refine Wc.dk hmix [{}, hC h200, rT, {}, {}, {}, {}, {}, {}, {}, {}, {}, hL u15.1.ge, {}, {}, rT, {}, {}, {}, {}, {}, {}, {}, {}, {}, hE h203, {}, {}, {}, {}, rT, {}, {}, {}, {}, {}, {}, {}, {}, {}, hE h205] [] [0, 2, 48] [2, 1000000] [] (oC h200 (oC (cb h201) (oC (Z2 Gn.c u15.1.ge) (oC (cb h202) (oC h203 (oC (lenE h203 1) (oC (cb h204) (oC h205 (oC (lenD h205 1 1) AllP.nil))))))))) ?_
       refine Wc.ci h (fun _ h => ?_) (fun _ h => ?_)
       ·exact (Zk h).elim
       refine Wc.ks [0, 2] [2, 1000000] ?_
       exact ⟨_, stB h⟩
      refine Wc.dk hmix [{}, hC h200, rT, {}, {}, {}, {}, {}, {}, {}, {}, {}, hL u15.1.ge, {}, {}, rT, {}, {}, {}, {}, {}, {}, {}, {}, {}, hE h203, {}, {}, {}, {}, rF] [] [0, 2, 48] [2, 1000000] [] (oC h200 (oC (cb h201) (oC (Z2 Gn.c u15.1.ge) (oC (cb h202) (oC h203 (oC (lenE h203 1) (oC (cb h204) AllP.nil))))))) ?_
      refine Wc.cF rfl ?_
      refine Wc.ks [0, 2] [2, 1000000] ?_
      exact ⟨_, stB h⟩
     refine Wc.dk hmix [{}, hC h200, rT, {}, {}, {}, {}, {}, {}, {}, {}, {}, hL u15.1.ge, {}, {}, rF] [] [0, 2, 48] [2, 1000000] [] (o4 h200 (cb h201) (Z2 Gn.c u15.1.ge) (cb h202)) ?_
     refine Wc.cF rfl ?_
     refine Wc.ks [0, 2] [2, 1000000] ?_
     exact ⟨_, stB h⟩
    refine Wc.dk hmix [{}, hC h200, rF] [] [0, 2, 48] [2, 1000000] [] (o2 h200 (cb h201)) ?_
    refine Wc.cF rfl ?_
    refine Wc.ks [0, 2] [2, 1000000] ?_
    exact ⟨_, stB h⟩
   rintro st ⟨u40, rfl, h⟩
   obtain ⟨u8p, h196, h⟩ := oc h fun _ => Z3n
   refine Wc.s2 [{}, hC h196] [0, 2, 3] [2, 3, 1000000] (o1 h196) ?_
   obtain ⟨u9f, h198, h⟩ := oc h fun _ => Z6v
   refine Wc.s2 [{}, hC h198] [2, 3] [2, 3, 1000000] (o1 h198) ?_
   refine Wc.s0 [2] [2, 1000000] ?_
   cases h; exact Wc.ret dn
  ·intro u1g r h
   rw [Zx] at h
   refine FnO.o2 Tryz.func135 rfl fun _ _ _ _ _ _ => ?_
   refine Wc.s0 [0, 2] [2, 1000000] ?_
   apply Wc.seq
   obtain ⟨u7m, h210, h⟩ := oc h fun _ => Z4b
   refine Wc.s2 [{}, hC h210] [0, 2, 7] [2, 1000000] (o1 h210) ?_
   refine Wc.ci h (fun _ h => ?_) (fun _ h => ?_)
   ·obtain ⟨u9m, h213, h⟩ := oc h fun _ => Zeb
    refine Wc.s2 [hC h213, hK [8]] [2] [2, 1000000] (o1 h213) ?_
    refine Wc.fk [.un (.b 2 3)] [2] [2, 1000000] [] ?_
    cases h; exact Wc.ret dn
   refine Wc.ks [0, 2] [2, 1000000] ?_
   have h215 := (Z2s Gt.c)
   refine Wc.s2 [hB h215, hK [9]] [0, 2, 3] [2, 1000000] (o1 h215) ?_
   obtain ⟨u4q, h216, h⟩ := oc h fun _ => Zeb
   refine Wc.s2 [hC h216, {}, hK [10]] [0, 2, 3, 4] [2, 4, 1000000] (o1 h216) ?_
   obtain ⟨out1, h218, h⟩ := Z2d h
   refine Wc.seqJ (fun st => ∃ (u2n : List Gt) (u5w : Gt) (u0x : GXr), out1 = .done (u2n, u5w, u0x) ∧ st = ⟨[tP 2 2, (3, (.v (.sl (List.map Gt.c u2n)), [(0, .app 31)])), tP 4 4], [bX0 2, bC 4 (Gt.q u5w), (1000000, .cells (GXr.k2 u0x) (GXr.h4_9f u0x))], []⟩) ?_ ?_
   ·apply Wc.block
    refine Wc.loop (fun m st => ∃ (u3u : List Gt) (u3c : GXr), st = ⟨[tP 0 1000000, tP 2 2, (3, (.v (.sl (List.map Gt.c u3u)), [(0, .app 31)])), tP 4 4], [bX0 2, (4, .cells (Gt.q u4q) [(3, .app 31)]), (1000000, .cells (GXr.k2 u3c) (GXr.h4_9f u3c))], []⟩ ∧ Z84 k (Zu k) (Zd k) (Zm k) (Zx k) (Zt k) (Zq k) u4q m u3u u3c = some out1) ?_ k ⟨_, _, stB h218⟩
    rintro m st ⟨u3u, u3c, rfl, h218⟩
    rcases m with _ | m
    ·exact (Zk h218).elim
    apply Wc.seq
    refine Wc.s0 [0, 2, 3, 4, 15] [2, 4, 1000000] ?_
    refine Wc.ci h218 (fun _ h218 => ?_) (fun _ h218 => ?_)
    ·refine Wc.ks [0, 2, 3, 4] [2, 4, 1000000] ?_
     apply Wc.block
     obtain ⟨u41, h220, h218⟩ := oc h218 fun _ => Z3n
     have h221 := (Z1l (c := Gt.c) (x := u41.2) (Gt.c_eq u41.2) (Z2s Gt.c))
     obtain ⟨h222, h218⟩ := Z4 h218
     have h223 := (Z30 Gt.c u3u [u41.2])
     refine Wc.s2 [hK [3], {}, hC h220, hB h221, { hB h223 with tk := [16] }, hK [20]] [0, 2, 3, 4] [2, 4, 1000000] (oC h220 (oC h221 (oA h223 Gt.c_leaf Gt.c_len h222 AllP.nil))) ?_
     apply Wc.seq
     obtain ⟨u7a, h225, h218⟩ := oc h218 fun _ => Z4b
     refine Wc.s2 [{}, hC h225] [0, 2, 3, 4, 22] [2, 4, 1000000] (o1 h225) ?_
     refine Wc.ci h218 (fun _ h218 => ?_) (fun _ h218 => ?_)
     ·refine Wc.fk [.un (.b 4 3)] [2, 3, 4] [2, 4, 1000000] [] ?_
      refine Wc.exit ?_
      cases h218; exact ⟨_, _, _, rfl, by kernel_rfl⟩
     refine Wc.ks [0, 2, 3, 4] [2, 4, 1000000] ?_
     apply Wc.seq
     obtain ⟨u7b, h228, h218⟩ := oc h218 fun _ => Z4b
     refine Wc.s2 [{}, hC h228] [0, 2, 3, 4, 24] [2, 4, 1000000] (o1 h228) ?_
     refine Wc.ci h218 (fun _ h218 => ?_) (fun _ h218 => ?_)
     ·obtain ⟨u8q, h231, h218⟩ := oc h218 fun _ => Z3n
      refine Wc.s2 [{}, hC h231] [0, 2, 3, 4] [2, 4, 1000000] (o1 h231) ?_
      obtain ⟨u9g, h233, h218⟩ := oc h218 fun _ => Z6v
      refine Wc.s2 [{}, hC h233] [2, 3, 4] [2, 4, 1000000] (o1 h233) ?_
      refine Wc.exit ?_
      cases h218; exact ⟨_, _, _, rfl, by kernel_rfl⟩
     refine Wc.ks [0, 2, 3, 4] [2, 4, 1000000] ?_
     obtain ⟨u9h, h235, h218⟩ := oc h218 fun _ => Z6v
     refine Wc.k2 [{}, hC h235] [0, 2, 3, 4] [2, 4, 1000000] (o1 h235) ?_
     exact ⟨_, Nat.lt_succ_self _, _, _, stB h218⟩
    refine Wc.fk [.un (.b 4 3)] [2, 3, 4] [2, 4, 1000000] [] ?_
    refine Wc.exit ?_
    cases h218; exact ⟨_, _, _, rfl, by kernel_rfl⟩
   rintro st ⟨u2n, u5w, u0x, rfl, rfl⟩
   apply Wc.seq
   refine Wc.s2 [{}, hL u2n] [2, 3, 4, 5] [2, 4, 1000000] (o1 (Z2 Gt.c u2n)) ?_
   obtain ⟨out2, h237, h⟩ := Z2d h
   refine Wc.lastJ (fun st => ∃ (u5x : Gt), out2 = .done u5x ∧ st = ⟨[tP 2 2, tP 4 4], [bX0 2, bC 4 (Gt.q u5x), (1000000, .cells (GXr.k2 u0x) (GXr.h4_9f u0x))], []⟩) ?_ ?_
   ·apply Wc.block
    refine Wc.loop (fun m st => ∃ (u52 : Int) (u5f : Gt), st = ⟨[tP 2 2, (3, (.v (.sl (List.map Gt.c u2n)), [(0, .app 31)])), tP 4 4, tI 5 u52], [bX0 2, bC 4 (Gt.q u5f), (1000000, .cells (GXr.k2 u0x) (GXr.h4_9f u0x))], []⟩ ∧ Z83 k (Zu k) (Zd k) (Zm k) (Zx k) (Zt k) (Zq k) u2n m u52 u5f = some out2) ?_ k ⟨_, _, stB h237⟩
    rintro m st ⟨u52, u5f, rfl, h237⟩
    rcases m with _ | m
    ·exact (Zk h237).elim
    apply Wc.seq
    refine Wc.s0 [2, 3, 4, 5, 35] [2, 4, 1000000] ?_
    refine Wc.ci h237 (fun _ h237 => ?_) (fun _ h237 => ?_)
    ·refine Wc.ks [2, 3, 4, 5] [2, 4, 1000000] ?_
     apply Wc.seq
     apply Wc.block
     obtain ⟨u7c, h239, h237⟩ := oc h237 fun u7c h239 => (Z11 (c := Gt.c) (Gt.c_eq u7c) Gt.c_len h239)
     obtain ⟨u9i, h240, h237⟩ := oc h237 fun _ => Zkl
     refine Wc.dk hmix [{}, {}, hE h239, {}, {}, hC h240, hK [43]] [] [2, 3, 4, 5] [2, 4, 1000000] [] (o3 h239 (lenE h239 4) h240) ?_
     refine Wc.k3 [] [.un (.b 4 3)] [2, 3, 4, 5] [2, 4, 1000000] [] .nil ?_
     exact ⟨_, Nat.lt_succ_self _, _, _, stB h237⟩
    refine Wc.ke [2, 4] [2, 4, 1000000] ?_
    cases h237; exact ⟨_, rfl, by kernel_rfl⟩
   rintro st ⟨u5x, rfl, rfl⟩
   refine Wc.s0 [2] [2, 1000000] ?_
   cases h; exact Wc.ret dn
  ·intro u1h u45 r h
   rw [Zt] at h
   refine FnO.o2 Tryz.func147 rfl fun _ _ _ _ _ _ => ?_
   refine Wc.s0 [0, 1, 4] [4, 1000000] ?_
   refine Wc.s1 [{}, {}, {}, hK [8]] [0, 4, 5] [4, 5, 1000000] ?_
   obtain ⟨out1, h243, h⟩ := Z2d h
   refine Wc.seqJ (fun st => ∃ (u5y : Gt) (u46 : GXr), out1 = .done (u5y, u46) ∧ st = ⟨[tP 4 4, tP 5 5], [bX0 4, (5, .cells (Gt.q u5y) [(3, .app 31)]), (1000000, .cells (GXr.k2 u46) (GXr.h4_9f u46))], []⟩) ?_ ?_
   ·apply Wc.block
    refine Wc.loop (fun m st => ∃ (u14 : Gt) (u3d : GXr), st = ⟨[tP 0 1000000, tP 4 4, tP 5 5], [bX0 4, (5, .cells (Gt.q u14) [(3, .app 31)]), (1000000, .cells (GXr.k2 u3d) (GXr.h4_9f u3d))], []⟩ ∧ Z7i k (Zu k) (Zd k) (Zm k) (Zx k) (Zt k) (Zq k) m u14 u3d = some out1) ?_ k ⟨_, _, stB h243⟩
    rintro m st ⟨u14, u3d, rfl, h243⟩
    rcases m with _ | m
    ·exact (Zk h243).elim
    apply Wc.seq
    refine Wc.s0 [0, 4, 5, 13] [4, 5, 1000000] ?_
    refine Wc.ci h243 (fun _ h243 => ?_) (fun _ h243 => ?_)
    ·refine Wc.ks [0, 4, 5] [4, 5, 1000000] ?_
     apply Wc.block
     obtain ⟨u4r, h245, h243⟩ := oc h243 fun _ => Z3n
     refine Wc.s2 [{}, hC h245] [0, 4, 5, 6] [4, 5, 6, 1000000] (o1 h245) ?_
     apply Wc.seq
     refine Wc.s2 [{}, {}, hL u14.ga] [0, 4, 5, 6, 19] [4, 5, 6, 1000000] (o1 (Z2 Gt.c u14.ga)) ?_
     refine Wc.ci h243 (fun _ h243 => ?_) (fun _ h243 => ?_)
     ·exact (Zk h243).elim
     refine Wc.ks [0, 4, 5, 6] [4, 5, 6, 1000000] ?_
     have h248 := (Z1l (c := Gt.c) (x := u4r.2) (Gt.c_eq u4r.2) (Z2s Gt.c))
     obtain ⟨h249, h243⟩ := Z4 h243
     have h250 := (Z30 Gt.c u14.ga [u4r.2])
     refine Wc.s2 [{}, hM 1, {}, hB h248, { hB h250 with tk := [24] }, {}, hK [27]] [0, 4, 5] [4, 5, 1000000] (oC h248 (oA h250 Gt.c_leaf Gt.c_len h249 AllP.nil)) ?_
     apply Wc.seq
     obtain ⟨u7d, h251, h243⟩ := oc h243 fun _ => Z4b
     refine Wc.s2 [{}, hC h251] [0, 4, 5, 30] [4, 5, 1000000] (o1 h251) ?_
     refine Wc.ci h243 (fun _ h243 => ?_) (fun _ h243 => ?_)
     ·refine Wc.ke [4, 5] [4, 5, 1000000] ?_
      cases h243; exact ⟨_, _, rfl, by kernel_rfl⟩
     refine Wc.ks [0, 4, 5] [4, 5, 1000000] ?_
     obtain ⟨u9j, h254, h243⟩ := oc h243 fun _ => Z6v
     refine Wc.k2 [{}, hC h254] [0, 4, 5] [4, 5, 1000000] (o1 h254) ?_
     exact ⟨_, Nat.lt_succ_self _, _, _, stB h243⟩
    refine Wc.ke [4, 5] [4, 5, 1000000] ?_
    cases h243; exact ⟨_, _, rfl, by kernel_rfl⟩
   rintro st ⟨u5y, u46, rfl, rfl⟩
   refine Wc.s1 [hM 1, hK [33]] [4] [4, 1000000] ?_
   cases h; exact Wc.ret dn
  ·intro u0f u1x r h
   rw [Zq] at h
   refine FnO.o2 Tryz.func71 rfl fun _ _ _ _ _ _ => ?_
   refine Wc.s0 [0, 1, 4] [4, 1000000] ?_
   refine Wc.s0 [0, 1, 4] [4, 1000000] ?_
   apply Wc.seq
   rcases oif h with ⟨h256, h⟩ | ⟨h256, h⟩
   ·refine Wc.s2 [{}, {}, {}, {}, rT] [0, 1, 4, 28] [4, 1000000] (o1 (cb h256)) ?_
    refine Wc.cT rfl ?_
    exact (Zk h).elim
   refine Wc.s2 [{}, {}, {}, {}, rF] [0, 1, 4, 28] [4, 1000000] (o1 (cb h256)) ?_
   refine Wc.ci h (fun _ h => ?_) (fun _ h => ?_)
   ·exact (Zk h).elim
   refine Wc.ks [0, 1, 4] [4, 1000000] ?_
   obtain ⟨u7n, h258, h⟩ := oc h fun _ => Zdj
   refine Wc.s2 [{}, {}, hC h258] [0, 1, 4, 5, 6] [4, 5, 1000000] (o1 h258) ?_
   obtain ⟨out1, h260, h⟩ := Z2d h
   refine Wc.seqJ (fun st => ∃ (u5z : Gt) (u2o : GXr), out1 = .done (u5z, u2o) ∧ st = ⟨[tP 0 1000000, tP 4 4, tP 5 5], [bX0 4, bC 5 (Gt.q u5z), (1000000, .cells (GXr.k2 u2o) (GXr.h4_9f u2o))], []⟩) ?_ ?_
   ·apply Wc.block
    refine Wc.loop (fun m st => ∃ (u5v : Int) (u42 : Gt) (u3e : GXr), st = ⟨[tP 0 1000000, tI 1 u1x, tP 4 4, tP 5 5, tI 6 u5v], [bX0 4, bC 5 (Gt.q u42), (1000000, .cells (GXr.k2 u3e) (GXr.h4_9f u3e))], []⟩ ∧ Z7h k (Zu k) (Zd k) (Zm k) (Zx k) (Zt k) (Zq k) u1x m u5v u42 u3e = some out1) ?_ k ⟨_, _, _, stB h260⟩
    rintro m st ⟨u5v, u42, u3e, rfl, h260⟩
    rcases m with _ | m
    ·exact (Zk h260).elim
    apply Wc.seq
    refine Wc.s0 [0, 1, 4, 5, 6, 43] [4, 5, 1000000] ?_
    refine Wc.ci h260 (fun _ h260 => ?_) (fun _ h260 => ?_)
    ·refine Wc.ks [0, 1, 4, 5, 6] [4, 5, 1000000] ?_
     apply Wc.block
     obtain ⟨u1y, h262, h260⟩ := oc h260 fun _ => Zi7
     refine Wc.s2 [{}, hC h262] [0, 1, 4, 5, 6, 7, 8] [4, 5, 7, 1000000] (o1 h262) ?_
     apply Wc.seq
     rcases oif h260 with ⟨h264, h260⟩ | ⟨h264, h260⟩
     ·refine Wc.s2 [{}, {}, rT] [0, 1, 4, 5, 7, 62] [4, 5, 7, 1000000] (o1 (cb h264)) ?_
      refine Wc.cT rfl ?_
      refine Wc.ke [0, 4, 5] [4, 5, 1000000] ?_
      cases h260; exact ⟨_, _, rfl, by kernel_rfl⟩
     rcases oif h260 with ⟨h265, h260⟩ | ⟨h265, h260⟩
     ·refine Wc.s2 [{}, {}, rF, {}, {}, {}, {}, {}, rT] [0, 1, 4, 5, 7, 62] [4, 5, 7, 1000000] (o2 (cb h264) (cb h265)) ?_
      refine Wc.cT rfl ?_
      refine Wc.ke [0, 4, 5] [4, 5, 1000000] ?_
      cases h260; exact ⟨_, _, rfl, by kernel_rfl⟩
     refine Wc.s2 [{}, {}, rF, {}, {}, {}, {}, {}, rF] [0, 1, 4, 5, 7, 62] [4, 5, 7, 1000000] (o2 (cb h264) (cb h265)) ?_
     refine Wc.ci h260 (fun _ h260 => ?_) (fun _ h260 => ?_)
     ·refine Wc.ke [0, 4, 5] [4, 5, 1000000] ?_
      cases h260; exact ⟨_, _, rfl, by kernel_rfl⟩
     refine Wc.ks [0, 1, 4, 5, 7] [4, 5, 7, 1000000] ?_
     refine Wc.s0 [0, 1, 4, 5, 7] [4, 5, 7, 1000000] ?_
     obtain ⟨u8r, h267, h260⟩ := oc h260 fun _ => Z3n
     refine Wc.s2 [{}, {}, {}, hC h267] [0, 1, 4, 5, 7, 9] [4, 5, 7, 9, 1000000] (o1 h267) ?_
     obtain ⟨u9k, h269, h260⟩ := oc h260 fun _ => Zkl
     refine Wc.s2 [{}, {}, {}, {}, hC h269, hK [79]] [0, 1, 4, 5, 7] [4, 5, 7, 1000000] (o1 h269) ?_
     refine Wc.k3 [] [.un (.b 5 3)] [0, 1, 4, 5, 6] [4, 5, 1000000] [] .nil ?_
     exact ⟨_, Nat.lt_succ_self _, _, _, _, stB h260⟩
    refine Wc.ke [0, 4, 5] [4, 5, 1000000] ?_
    cases h260; exact ⟨_, _, rfl, by kernel_rfl⟩
   rintro st ⟨u5z, u2o, rfl, rfl⟩
   refine Wc.s0 [4, 5] [4, 5, 1000000] ?_
   refine Wc.s0 [4] [4, 1000000] ?_
   cases h; exact Wc.ret dn
theorem Zki {k : Nat} {u0f : GXr} {u1x : Int} {r : GXr × Gt} (h : Zq k u0f u1x = some r) : FnO Tryz.prog 71 [.p (GXr.k2 u0f) (GXr.h4_9f u0f), .v (aI u1x) []] (.v (.agg (Gt.q r.2)) []) [(0, .p (GXr.k2 r.1) (GXr.h4_9f r.1))] := (Zf6 k).2.2.2.2.2 h

def Zad (k : Nat) (uc : Int) : Option Bool :=
 if (uc == 32) = true then
  some true
 else
  if (uc == 9) = true then
   some true
  else
   some (uc == 10)
theorem Zf3 {k : Nat} {uc : Int} {r : Bool} (h : Zad k uc = some r) : FnO Tryz.prog 67 [.v (.int .u8 uc) []] (.v (.bool r) []) [] := by
 refine FnO.o2 Tryz.func67 rfl fun _ _ _ _ _ _ => ?_
 unfold Zad at h
 refine Wc.s0 [0] [] ?_
 rcases oif h with ⟨h18, h⟩ | ⟨h18, h⟩
 ·refine Wc.s2 [{}, {}, rT] [2] [] (o1 (cb h18)) ?_
  cases h; exact Wc.ret dn
 rcases oif h with ⟨h19, h⟩ | ⟨h19, h⟩
 ·refine Wc.s2 [{}, {}, rF, {}, {}, {}, rT] [2] [] (o2 (cb h18) (cb h19)) ?_
  cases h; exact Wc.ret dn
 refine Wc.s2 [{}, {}, rF, {}, {}, {}, rF] [2] [] (o2 (cb h18) (cb h19)) ?_
 cases h; exact Wc.ret dn

def Zc5 (k : Nat) (up : Int) : Option Bool :=
 if (decide (up ≥ 97)) = true then
  some (decide (up ≤ 122))
 else
  some false
theorem Zkk {k : Nat} {up : Int} {r : Bool} (h : Zc5 k up = some r) : FnO Tryz.prog 100 [.v (.int .u8 up) []] (.v (.bool r) []) [] := by
 refine FnO.o2 Tryz.func100 rfl fun _ _ _ _ _ _ => ?_
 unfold Zc5 at h
 refine Wc.s0 [0] [] ?_
 rcases oif h with ⟨h25, h⟩ | ⟨h25, h⟩
 ·refine Wc.s2 [{}, {}, rT] [2] [] (o1 (cb h25)) ?_
  cases h; exact Wc.ret dn
 refine Wc.s2 [{}, {}, rF] [2] [] (o1 (cb h25)) ?_
 cases h; exact Wc.ret dn

def Zac (k : Nat) (v7 : Int) : Option Bool :=
 if (decide (v7 ≥ 65)) = true then
  if (decide (v7 ≤ 90)) = true then
   some true
  else
   some (v7 == 95)
 else
  some (v7 == 95)
theorem Zf2 {k : Nat} {v7 : Int} {r : Bool} (h : Zac k v7 = some r) : FnO Tryz.prog 101 [.v (.int .u8 v7) []] (.v (.bool r) []) [] := by
 refine FnO.o2 Tryz.func101 rfl fun _ _ _ _ _ _ => ?_
 unfold Zac at h
 refine Wc.s0 [0] [] ?_
 rcases oif h with ⟨h27, h⟩ | ⟨h27, h⟩
 ·rcases oif h with ⟨h28, h⟩ | ⟨h28, h⟩
  ·refine Wc.s2 [{}, {}, rT, {}, {}, {}, rT] [2] [] (o2 (cb h27) (cb h28)) ?_
   cases h; exact Wc.ret dn
  refine Wc.s2 [{}, {}, rT, {}, {}, {}, rF] [2] [] (o2 (cb h27) (cb h28)) ?_
  cases h; exact Wc.ret dn
 refine Wc.s2 [{}, {}, rF] [2] [] (o1 (cb h27)) ?_
 cases h; exact Wc.ret dn

def Z8s (k : Nat) (u08 : Int) : Option Bool :=
 if (decide (u08 ≥ 48)) = true then
  some (decide (u08 ≤ 57))
 else
  some false
theorem Zdp {k : Nat} {u08 : Int} {r : Bool} (h : Z8s k u08 = some r) : FnO Tryz.prog 103 [.v (.int .u8 u08) []] (.v (.bool r) []) [] := by
 refine FnO.o2 Tryz.func103 rfl fun _ _ _ _ _ _ => ?_
 unfold Z8s at h
 refine Wc.s0 [0] [] ?_
 rcases oif h with ⟨h32, h⟩ | ⟨h32, h⟩
 ·refine Wc.s2 [{}, {}, rT] [2] [] (o1 (cb h32)) ?_
  cases h; exact Wc.ret dn
 refine Wc.s2 [{}, {}, rF] [2] [] (o1 (cb h32)) ?_
 cases h; exact Wc.ret dn

def Zgm (k : Nat) (uu : Int) : Option Bool :=
 (Zc5 k uu).bind fun u1i =>
 if u1i = true then
  some true
 else
  (Zac k uu).bind fun u1d =>
  if u1d = true then
   some true
  else
   (Z8s k uu).bind fun u2b =>
   some u2b
theorem Ztu {k : Nat} {uu : Int} {r : Bool} (h : Zgm k uu = some r) : FnO Tryz.prog 130 [.v (.int .u8 uu) []] (.v (.bool r) []) [] := by
 refine FnO.o2 Tryz.func130 rfl fun _ _ _ _ _ _ => ?_
 unfold Zgm at h
 refine Wc.s0 [0] [] ?_
 obtain ⟨u1i, h28, h⟩ := oc h fun _ => Zkk
 rcases oif h with ⟨h29, h⟩ | ⟨h29, h⟩
 ·refine Wc.s2 [{}, hC h28, rT] [2] [] (o2 h28 (cb h29)) ?_
  cases h; exact Wc.ret dn
 obtain ⟨u1d, h30, h⟩ := oc h fun _ => Zf2
 rcases oif h with ⟨h31, h⟩ | ⟨h31, h⟩
 ·refine Wc.s2 [{}, hC h28, rF, {}, hC h30, {}, rT] [2] [] (o4 h28 (cb h29) h30 (cb h31)) ?_
  cases h; exact Wc.ret dn
 obtain ⟨u2b, h32, h⟩ := oc h fun _ => Zdp
 refine Wc.s2 [{}, hC h28, rF, {}, hC h30, {}, rF, {}, hC h32] [2] [] (oC h28 (oC (cb h29) (oC h30 (oC (cb h31) (oC h32 AllP.nil))))) ?_
 cases h; exact Wc.ret dn

def Zda (k : Nat) (u1z : ByteArray) : Nat → Int → Option (Out Int Int)
 | 0, _ => none
 | m + 1, vn =>
  if (decide (vn < (u1z.size : Int))) = true then
   if 0 ≤ vn ∧ (vn).toNat < u1z.size then
    (Zgm k (bt u1z vn)).bind fun u1i =>
    if u1i = true then
     Zda k u1z m (wr.i64 (vn + 1))
    else
     some (.done vn)
   else none
  else
   some (.done vn)
def Zj8 (k : Nat) (u1z : ByteArray) (vf : Int) : Option Int :=
 (Zda k u1z k vf).bind fun out1 => match out1 with
 | .ret r => some r
 | .done uu =>
  some uu
theorem Zwm {k : Nat} {u1z : ByteArray} {vf : Int} {r : Int} (h : Zj8 k u1z vf = some r) : FnO Tryz.prog 102 [.v (.str u1z) [], .v (aI vf) []] (.v (aI r) []) [] := by
 refine FnO.o2 Tryz.func102 rfl fun _ _ _ _ _ _ => ?_
 unfold Zj8 at h
 refine Wc.s0 [0, 1] [] ?_
 obtain ⟨out1, h26, h⟩ := Z2d h
 refine Wc.seqJ (fun st => ∃ (uu : Int), out1 = .done uu ∧ st = ⟨[tI 1 uu], [], []⟩) ?_ ?_
 ·apply Wc.block
  refine Wc.loop (fun m st => ∃ (vn : Int), st = ⟨[tS 0 u1z, tI 1 vn], [], []⟩ ∧ Zda k u1z m vn = some out1) ?_ k ⟨_, stB h26⟩
  rintro m st ⟨vn, rfl, h26⟩
  rcases m with _ | m
  ·exact (Zk h26).elim
  apply Wc.seq
  rcases oif h26 with ⟨h27, h26⟩ | ⟨h27, h26⟩
  ·obtain ⟨h28, h26⟩ := Z4 h26
   obtain ⟨u1i, h29, h26⟩ := oc h26 fun _ => Ztu
   refine Wc.s2 [{}, {}, {}, {}, rT, {}, {}, {}, hC h29] [0, 1, 14] [] (o3 (cb h27) h28 h29) ?_
   refine Wc.ci h26 (fun _ h26 => ?_) (fun _ h26 => ?_)
   ·refine Wc.ks [0, 1] [] ?_
    apply Wc.block
    refine Wc.k0 [0, 1] [] ?_
    exact ⟨_, Nat.lt_succ_self _, _, stB h26⟩
   refine Wc.ke [1] [] ?_
   cases h26; exact ⟨_, rfl, by kernel_rfl⟩
  refine Wc.s2 [{}, {}, {}, {}, rF] [0, 1, 14] [] (o1 (cb h27)) ?_
  refine Wc.cF rfl ?_
  refine Wc.ke [1] [] ?_
  cases h26; exact ⟨_, rfl, by kernel_rfl⟩
 rintro st ⟨uu, rfl, rfl⟩
 refine Wc.s0 [4] [] ?_
 cases h; exact Wc.ret dn

def Z96 (k : Nat) (u0k : Int) : Nat → Int → Option (Out Bool Unit)
 | 0, _ => none
 | m + 1, u0y =>
  if (decide (u0y < ((bs [43, 45, 42, 47, 92, 94, 60, 62, 61, 126, 58, 46, 63, 64, 35, 38, 36]).size : Int))) = true then
   if 0 ≤ u0y ∧ (u0y).toNat < (bs [43, 45, 42, 47, 92, 94, 60, 62, 61, 126, 58, 46, 63, 64, 35, 38, 36]).size then
    if ((bt (bs [43, 45, 42, 47, 92, 94, 60, 62, 61, 126, 58, 46, 63, 64, 35, 38, 36]) u0y) == u0k) = true then
     some (.ret true)
    else
     Z96 k u0k m (wr.i64 (u0y + 1))
   else none
  else
   some (.done ())
def Z7m (k : Nat) (u0k : Int) : Option Bool :=
 (Z96 k u0k k 0).bind fun out1 => match out1 with
 | .ret r => some r
 | .done () =>
  some false
theorem Zcr {k : Nat} {u0k : Int} {r : Bool} (h : Z7m k u0k = some r) : FnO Tryz.prog 106 [.v (.int .u8 u0k) []] (.v (.bool r) []) [] := by
 refine FnO.o2 Tryz.func106 rfl fun _ _ _ _ _ _ => ?_
 unfold Z7m at h
 refine Wc.s0 [0] [] ?_
 refine Wc.s0 [0, 3] [] ?_
 apply Wc.seq
 refine Wc.s0 [0, 3, 4] [] ?_
 obtain ⟨out1, h53, h⟩ := Z2d h
 refine Wc.lastJ (fun st => out1 = .done () ∧ st = ⟨[], [], []⟩) ?_ ?_
 ·apply Wc.block
  refine Wc.loop (fun m st => ∃ (u0y : Int), st = ⟨[tV 0 (.int .u8 u0k), tS 3 (bs [43, 45, 42, 47, 92, 94, 60, 62, 61, 126, 58, 46, 63, 64, 35, 38, 36]), tI 4 u0y], [], []⟩ ∧ Z96 k u0k m u0y = some out1) ?_ k ⟨_, stB h53⟩
  rintro m st ⟨u0y, rfl, h53⟩
  rcases m with _ | m
  ·exact (Zk h53).elim
  apply Wc.seq
  refine Wc.s0 [0, 3, 4, 8] [] ?_
  refine Wc.ci h53 (fun _ h53 => ?_) (fun _ h53 => ?_)
  ·refine Wc.ks [0, 3, 4] [] ?_
   apply Wc.seq
   apply Wc.block
   obtain ⟨h55, h53⟩ := Z4 h53
   refine Wc.s2 [] [0, 3, 4, 15] [] (o1 h55) ?_
   refine Wc.ci h53 (fun _ h53 => ?_) (fun _ h53 => ?_)
   ·refine Wc.s0 [2] [] ?_
    cases h53; cases h; exact Wc.ret dn
   refine Wc.ks [0, 3, 4] [] ?_
   refine Wc.k0 [0, 3, 4] [] ?_
   exact ⟨_, Nat.lt_succ_self _, _, stB h53⟩
  refine Wc.ke [] [] ?_
  cases h53; exact ⟨rfl, by kernel_rfl⟩
 rintro st ⟨rfl, rfl⟩
 refine Wc.s0 [2] [] ?_
 cases h; exact Wc.ret dn

def Zj9 (k : Nat) (u0h : ByteArray) (u09 : Int) : Option Bool :=
 if 0 ≤ u09 ∧ (u09).toNat < u0h.size then
  if ((bt u0h u09) == 46) = true then
   if (u09 == 0) = true then
    if ((wr.i64 (u09 + 1)) == (u0h.size : Int)) = true then
     some true
    else
     if 0 ≤ wr.i64 (u09 + 1) ∧ (wr.i64 (u09 + 1)).toNat < u0h.size then
      (Zad k (bt u0h (wr.i64 (u09 + 1)))).bind fun u2d =>
      if u2d = true then
       some true
      else
       if 0 ≤ wr.i64 (u09 + 1) ∧ (wr.i64 (u09 + 1)).toNat < u0h.size then
        some ((bt u0h (wr.i64 (u09 + 1))) == 37)
       else none
     else none
   else
    if 0 ≤ wr.i64 (u09 - 1) ∧ (wr.i64 (u09 - 1)).toNat < u0h.size then
     (Z7m k (bt u0h (wr.i64 (u09 - 1)))).bind fun u2d =>
     if (!u2d) = true then
      if ((wr.i64 (u09 + 1)) == (u0h.size : Int)) = true then
       some true
      else
       if 0 ≤ wr.i64 (u09 + 1) ∧ (wr.i64 (u09 + 1)).toNat < u0h.size then
        (Zad k (bt u0h (wr.i64 (u09 + 1)))).bind fun u60 =>
        if u60 = true then
         some true
        else
         if 0 ≤ wr.i64 (u09 + 1) ∧ (wr.i64 (u09 + 1)).toNat < u0h.size then
          some ((bt u0h (wr.i64 (u09 + 1))) == 37)
         else none
       else none
     else
      some false
    else none
  else
   some false
 else none
theorem Zwn {k : Nat} {u0h : ByteArray} {u09 : Int} {r : Bool} (h : Zj9 k u0h u09 = some r) : FnO Tryz.prog 105 [.v (.str u0h) [], .v (aI u09) []] (.v (.bool r) []) [] := by
 refine FnO.o2 Tryz.func105 rfl fun _ _ _ _ _ _ => ?_
 unfold Zj9 at h
 refine Wc.s0 [0, 1] [] ?_
 obtain ⟨h49, h⟩ := Z4 h
 rcases oif h with ⟨h50, h⟩ | ⟨h50, h⟩
 ·rcases oif h with ⟨h51, h⟩ | ⟨h51, h⟩
  ·rcases oif h with ⟨h52, h⟩ | ⟨h52, h⟩
   ·refine Wc.s2 [{}, {}, {}, {}, rT, {}, {}, rT, {}, {}, {}, {}, {}, {}, {}, {}, {}, {}, {}, {}, {}, {}, rT] [4] [] (o4 h49 (cb h50) (cb h51) (cb h52)) ?_
    cases h; exact Wc.ret dn
   obtain ⟨h53, h⟩ := Z4 h
   obtain ⟨u2d, h54, h⟩ := oc h fun _ => Zf3
   rcases oif h with ⟨h55, h⟩ | ⟨h55, h⟩
   ·refine Wc.s2 [{}, {}, {}, {}, rT, {}, {}, rT, {}, {}, {}, {}, {}, {}, {}, {}, {}, {}, {}, {}, {}, {}, rF, {}, {}, {}, {}, hC h54, {}, rT] [4] [] (oC h49 (oC (cb h50) (oC (cb h51) (oC (cb h52) (oC h53 (oC h54 (oC (cb h55) AllP.nil))))))) ?_
    cases h; exact Wc.ret dn
   obtain ⟨h56, h⟩ := Z4 h
   refine Wc.s2 [{}, {}, {}, {}, rT, {}, {}, rT, {}, {}, {}, {}, {}, {}, {}, {}, {}, {}, {}, {}, {}, {}, rF, {}, {}, {}, {}, hC h54, {}, rF] [4] [] (oC h49 (oC (cb h50) (oC (cb h51) (oC (cb h52) (oC h53 (oC h54 (oC (cb h55) (oC h56 AllP.nil)))))))) ?_
   cases h; exact Wc.ret dn
  obtain ⟨h52, h⟩ := Z4 h
  obtain ⟨u2d, h53, h⟩ := oc h fun _ => Zcr
  rcases oif h with ⟨h54, h⟩ | ⟨h54, h⟩
  ·rcases oif h with ⟨h55, h⟩ | ⟨h55, h⟩
   ·refine Wc.s2 [{}, {}, {}, {}, rT, {}, {}, rF, {}, {}, {}, {}, hC h53, {}, {}, {}, rT, {}, {}, {}, {}, {}, rT] [4] [] (oC h49 (oC (cb h50) (oC (cb h51) (oC h52 (oC h53 (oC (cb h54) (oC (cb h55) AllP.nil))))))) ?_
    cases h; exact Wc.ret dn
   obtain ⟨h56, h⟩ := Z4 h
   obtain ⟨u60, h57, h⟩ := oc h fun _ => Zf3
   rcases oif h with ⟨h58, h⟩ | ⟨h58, h⟩
   ·refine Wc.s2 [{}, {}, {}, {}, rT, {}, {}, rF, {}, {}, {}, {}, hC h53, {}, {}, {}, rT, {}, {}, {}, {}, {}, rF, {}, {}, {}, {}, hC h57, {}, rT] [4] [] (oC h49 (oC (cb h50) (oC (cb h51) (oC h52 (oC h53 (oC (cb h54) (oC (cb h55) (oC h56 (oC h57 (oC (cb h58) AllP.nil)))))))))) ?_
    cases h; exact Wc.ret dn
   obtain ⟨h59, h⟩ := Z4 h
   refine Wc.s2 [{}, {}, {}, {}, rT, {}, {}, rF, {}, {}, {}, {}, hC h53, {}, {}, {}, rT, {}, {}, {}, {}, {}, rF, {}, {}, {}, {}, hC h57, {}, rF] [4] [] (oC h49 (oC (cb h50) (oC (cb h51) (oC h52 (oC h53 (oC (cb h54) (oC (cb h55) (oC h56 (oC h57 (oC (cb h58) (oC h59 AllP.nil))))))))))) ?_
   cases h; exact Wc.ret dn
  refine Wc.s2 [{}, {}, {}, {}, rT, {}, {}, rF, {}, {}, {}, {}, hC h53, {}, {}, {}, rF] [4] [] (oC h49 (oC (cb h50) (oC (cb h51) (oC h52 (oC h53 (oC (cb h54) AllP.nil)))))) ?_
  cases h; exact Wc.ret dn
 refine Wc.s2 [{}, {}, {}, {}, rF] [4] [] (o2 h49 (cb h50)) ?_
 cases h; exact Wc.ret dn

def Zc7 (k : Nat) (uj : ByteArray) : Nat → Int → Int → Option (Out (Gn × Int) (Int × Int))
 | 0, _, _ => none
 | m + 1, uu, vo =>
  if (decide (uu < (uj.size : Int))) = true then
   if 0 ≤ uu ∧ (uu).toNat < uj.size then
    (Z8s k (bt uj uu)).bind fun u2a =>
    if u2a = true then
     if (decide (vo ≤ 999999999)) = true then
      if 0 ≤ uu ∧ (uu).toNat < uj.size then
       Zc7 k uj m (wr.i64 (uu + 1)) (wr.i64 ((wr.i64 ((wr.i64 (10 * vo)) + (wr.i64 (bt uj uu)))) - 48))
      else none
     else
      some (.done (uu, vo))
    else
     some (.done (uu, vo))
   else none
  else
   some (.done (uu, vo))
def Zc6 (k : Nat) (uj : ByteArray) : Nat → Int → Option (Out (Gn × Int) Int)
 | 0, _ => none
 | m + 1, u0k =>
  if (decide (u0k < (uj.size : Int))) = true then
   if 0 ≤ u0k ∧ (u0k).toNat < uj.size then
    (Z7m k (bt uj u0k)).bind fun u61 =>
    if u61 = true then
     Zc6 k uj m (wr.i64 (u0k + 1))
    else
     some (.done u0k)
   else none
  else
   some (.done u0k)
def Z5f (k : Nat) (uj : ByteArray) (u4 : Int) (u62 : Bool) : Option (Gn × Int) :=
 if u62 = true then
  some (Gn.mk 4 (uj.extract (u4 : Int).toNat ((wr.i64 (u4 + 1)) : Int).toNat) 0 u4 false, wr.i64 (u4 + 1))
 else
  (Zj9 k uj u4).bind fun u3f =>
  if u3f = true then
   some (Gn.mk 5 (uj.extract (u4 : Int).toNat ((wr.i64 (u4 + 1)) : Int).toNat) 0 u4 false, wr.i64 (u4 + 1))
  else
   (Z7m k (bt uj u4)).bind fun u0g =>
   if u0g = true then
    (Zc6 k uj k u4).bind fun out5 => match out5 with
    | .ret r => some r
    | .done u0y =>
     if (decide ((wr.i64 (u0y - u4)) ≤ 20)) = true then
      if 0 ≤ u4 ∧ u4 ≤ u0y ∧ u0y ≤ (uj.size : Int) then
       some (Gn.mk 1 (uj.extract (u4 : Int).toNat (u0y : Int).toNat) 0 u4 false, u0y)
      else none
     else
      some (Gn.mk 6 (uj.extract (u4 : Int).toNat ((wr.i64 (u4 + 1)) : Int).toNat) 0 u4 false, wr.i64 (u4 + 1))
   else
    some (Gn.mk 6 (uj.extract (u4 : Int).toNat ((wr.i64 (u4 + 1)) : Int).toNat) 0 u4 false, wr.i64 (u4 + 1))
def Zc8 (k : Nat) (uj : ByteArray) (u4 : Int) (u0s : Bool) : Option (Gn × Int) :=
 if u0s = true then
  some (Gn.mk 1 (uj.extract (u4 : Int).toNat ((wr.i64 (u4 + 1)) : Int).toNat) 0 u4 false, wr.i64 (u4 + 1))
 else
  if ((bt uj u4) == 40) = true then
   Z5f k uj u4 true
  else
   if ((bt uj u4) == 41) = true then
    Z5f k uj u4 true
   else
    if ((bt uj u4) == 91) = true then
     Z5f k uj u4 true
    else
     if ((bt uj u4) == 93) = true then
      Z5f k uj u4 true
     else
      if ((bt uj u4) == 44) = true then
       Z5f k uj u4 true
      else
       Z5f k uj u4 ((bt uj u4) == 124)
def Zc9 (k : Nat) (uj : ByteArray) (u4 : Int) (u3g : Bool) : Option (Gn × Int) :=
 if u3g = true then
  (Zj8 k uj u4).bind fun v7 =>
  if (decide ((wr.i64 (v7 - u4)) ≤ 20)) = true then
   (Zac k (bt uj u4)).bind fun u2e =>
   if u2e = true then
    if 0 ≤ u4 ∧ u4 ≤ v7 ∧ v7 ≤ (uj.size : Int) then
     some (Gn.mk 2 (uj.extract (u4 : Int).toNat (v7 : Int).toNat) 0 u4 false, v7)
    else none
   else
    if 0 ≤ u4 ∧ u4 ≤ v7 ∧ v7 ≤ (uj.size : Int) then
     some (Gn.mk 1 (uj.extract (u4 : Int).toNat (v7 : Int).toNat) 0 u4 false, v7)
    else none
  else
   some (Gn.mk 6 (uj.extract (u4 : Int).toNat ((wr.i64 (u4 + 1)) : Int).toNat) 0 u4 false, wr.i64 (u4 + 1))
 else
  (Z8s k (bt uj u4)).bind fun u3h =>
  if u3h = true then
   (Zc7 k uj k u4 0).bind fun out2 => match out2 with
   | .ret r => some r
   | .done (z2, u08) =>
    if (decide (u08 ≤ 999999999)) = true then
     some (Gn.mk 3 (bs []) u08 u4 false, z2)
    else
     some (Gn.mk 6 (uj.extract (u4 : Int).toNat ((wr.i64 (u4 + 1)) : Int).toNat) 0 u4 false, wr.i64 (u4 + 1))
  else
   if ((bt uj u4) == 39) = true then
    none
   else
    if ((bt uj u4) == 33) = true then
     Zc8 k uj u4 true
    else
     Zc8 k uj u4 ((bt uj u4) == 59)
def Zgn (k : Nat) (uj : ByteArray) (u4 : Int) : Option (Gn × Int) :=
 if 0 ≤ u4 ∧ (u4).toNat < uj.size then
  if 0 ≤ u4 ∧ u4 ≤ (wr.i64 (u4 + 1)) ∧ (wr.i64 (u4 + 1)) ≤ (uj.size : Int) then
   (Zc5 k (bt uj u4)).bind fun u9n =>
   if u9n = true then
    Zc9 k uj u4 true
   else
    (Zac k (bt uj u4)).bind fun u9o =>
    Zc9 k uj u4 u9o
  else none
 else none
set_option maxHeartbeats 4000000 in
theorem Ztv {k : Nat} {uj : ByteArray} {u4 : Int} {r : Gn × Int} (h : Zgn k uj u4 = some r) : FnO Tryz.prog 68 [.v (.str uj) [], .v (aI u4) []] (.v (.tup [.agg (Gn.q r.1), aI r.2]) []) [] := by
 refine FnO.o2 Tryz.func68 rfl fun _ _ _ _ _ _ => ?_
 unfold Zgn at h
 refine Wc.s0 [0, 1, 4] [4] ?_
 obtain ⟨h23, h⟩ := Z4 h
 refine Wc.s2 [] [0, 1, 4, 6] [4] (o1 h23) ?_
 obtain ⟨h24, h⟩ := Z4 h
 refine Wc.s2 [] [0, 1, 4, 6, 7] [4, 7] (o1 h24) ?_
 refine Wc.s0 [0, 1, 4, 6, 7, 8] [4, 7] ?_
 apply Wc.seq
 apply Wc.block
 refine Wc.seqJ (fun st => ∃ (u3g : Bool), st = ⟨[tS 0 uj, tI 1 u4, tP 4 4, tV 6 (.int .u8 (bt uj u4)), tP 7 7, tI 8 (wr.i64 (u4 + 1)), tB 26 u3g], [bC 4 Gn.z, bC 7 [aI 6, .str (eX uj u4), aI 0, aI u4, .bool false]], []⟩ ∧ Zc9 k uj u4 u3g = some r) ?_ ?_
 ·obtain ⟨u9n, h69, h⟩ := oc h fun _ => Zkk
  rcases oif h with ⟨h70, h⟩ | ⟨h70, h⟩
  ·refine Wc.k2 [{}, hC h69, rT] [0, 1, 4, 6, 7, 8, 26] [4, 7] (o2 h69 (cb h70)) ?_
   exact ⟨_, stB h⟩
  obtain ⟨u9o, h71, h⟩ := oc h fun _ => Zf2
  refine Wc.k2 [{}, hC h69, rF, {}, hC h71] [0, 1, 4, 6, 7, 8, 26] [4, 7] (o3 h69 (cb h70) h71) ?_
  exact ⟨_, stB h⟩
 rintro st ⟨u3g, rfl, h⟩
 refine Wc.ci h (fun _ h => ?_) (fun _ h => ?_)
 ·obtain ⟨v7, h26, h⟩ := oc h fun _ => Zwm
  refine Wc.s2 [{}, {}, hC h26] [0, 1, 4, 6, 7, 8, 9] [4, 7] (o1 h26) ?_
  refine Wc.s0 [0, 1, 4, 6, 7, 8, 9, 39] [4, 7] ?_
  refine Wc.ci h (fun _ h => ?_) (fun _ h => ?_)
  ·refine Wc.s0 [0, 1, 4, 6, 7, 9] [4, 7] ?_
   apply Wc.seq
   obtain ⟨u2e, h29, h⟩ := oc h fun _ => Zf2
   refine Wc.s2 [{}, hC h29] [0, 1, 4, 7, 9, 42] [4, 7] (o1 h29) ?_
   refine Wc.ci h (fun _ h => ?_) (fun _ h => ?_)
   ·refine Wc.k0 [0, 1, 4, 7, 9] [4, 7] ?_
    obtain ⟨h32, h⟩ := Z4 h
    refine Wc.s2 [] [4, 7, 9] [4, 7] (o1 h32) ?_
    refine Wc.k0 [4, 7, 8] [4, 7] ?_
    refine Wc.s0 [4, 5] [4] ?_
    cases h; exact Wc.ret dn
   refine Wc.ks [0, 1, 4, 7, 9] [4, 7] ?_
   obtain ⟨h33, h⟩ := Z4 h
   refine Wc.s2 [] [4, 7, 9] [4, 7] (o1 h33) ?_
   refine Wc.k0 [4, 7, 8] [4, 7] ?_
   refine Wc.s0 [4, 5] [4] ?_
   cases h; exact Wc.ret dn
  refine Wc.ks [4, 7, 8] [4, 7] ?_
  refine Wc.s0 [4, 5] [4] ?_
  cases h; exact Wc.ret dn
 obtain ⟨u3h, h34, h⟩ := oc h fun _ => Zdp
 refine Wc.s2 [{}, hC h34] [0, 1, 4, 6, 7, 8, 50] [4, 7] (o1 h34) ?_
 refine Wc.ci h (fun _ h => ?_) (fun _ h => ?_)
 ·refine Wc.s0 [0, 1, 4, 7, 8, 10] [4, 7] ?_
  refine Wc.s0 [0, 1, 4, 7, 8, 10, 11] [4, 7] ?_
  obtain ⟨out2, h37, h⟩ := Z2d h
  refine Wc.seqJ (fun st => ∃ (z2 : Int) (u08 : Int), out2 = .done (z2, u08) ∧ st = ⟨[tI 1 u4, tP 4 4, tP 7 7, tI 8 (wr.i64 (u4 + 1)), tI 10 z2, tI 11 u08], [bC 4 Gn.z, bC 7 [aI 6, .str (eX uj u4), aI 0, aI u4, .bool false]], []⟩) ?_ ?_
  ·apply Wc.block
   refine Wc.loop (fun m st => ∃ (uu : Int) (vo : Int), st = ⟨[tS 0 uj, tI 1 u4, tP 4 4, tP 7 7, tI 8 (wr.i64 (u4 + 1)), tI 10 uu, tI 11 vo], [bC 4 Gn.z, bC 7 [aI 6, .str (eX uj u4), aI 0, aI u4, .bool false]], []⟩ ∧ Zc7 k uj m uu vo = some out2) ?_ k ⟨_, _, stB h37⟩
   rintro m st ⟨uu, vo, rfl, h37⟩
   rcases m with _ | m
   ·exact (Zk h37).elim
   apply Wc.seq
   rcases oif h37 with ⟨h38, h37⟩ | ⟨h38, h37⟩
   ·obtain ⟨h39, h37⟩ := Z4 h37
    obtain ⟨u2a, h40, h37⟩ := oc h37 fun _ => Zdp
    rcases oif h37 with ⟨h41, h37⟩ | ⟨h41, h37⟩
    ·refine Wc.s2 [{}, {}, {}, {}, rT, {}, {}, {}, hC h40, {}, rT] [0, 1, 4, 7, 8, 10, 11, 67] [4, 7] (o4 (cb h38) h39 h40 (cb h41)) ?_
     refine Wc.ci h37 (fun _ h37 => ?_) (fun _ h37 => ?_)
     ·refine Wc.ks [0, 1, 4, 7, 8, 10, 11] [4, 7] ?_
      apply Wc.block
      obtain ⟨h44, h37⟩ := Z4 h37
      refine Wc.s2 [] [0, 1, 4, 7, 8, 10, 11] [4, 7] (o1 h44) ?_
      refine Wc.k0 [0, 1, 4, 7, 8, 10, 11] [4, 7] ?_
      exact ⟨_, Nat.lt_succ_self _, _, _, stB h37⟩
     refine Wc.ke [1, 4, 7, 8, 10, 11] [4, 7] ?_
     cases h37; exact ⟨_, _, rfl, by kernel_rfl⟩
    refine Wc.s2 [{}, {}, {}, {}, rT, {}, {}, {}, hC h40, {}, rF] [0, 1, 4, 7, 8, 10, 11, 67] [4, 7] (o4 (cb h38) h39 h40 (cb h41)) ?_
    refine Wc.cF rfl ?_
    refine Wc.ke [1, 4, 7, 8, 10, 11] [4, 7] ?_
    cases h37; exact ⟨_, _, rfl, by kernel_rfl⟩
   refine Wc.s2 [{}, {}, {}, {}, rF] [0, 1, 4, 7, 8, 10, 11, 67] [4, 7] (o1 (cb h38)) ?_
   refine Wc.cF rfl ?_
   refine Wc.ke [1, 4, 7, 8, 10, 11] [4, 7] ?_
   cases h37; exact ⟨_, _, rfl, by kernel_rfl⟩
  rintro st ⟨z2, u08, rfl, rfl⟩
  refine Wc.s0 [1, 4, 7, 8, 10, 11, 79] [4, 7] ?_
  refine Wc.ci h (fun _ h => ?_) (fun _ h => ?_)
  ·refine Wc.s0 [4, 5] [4] ?_
   cases h; exact Wc.ret dn
  refine Wc.ks [4, 7, 8] [4, 7] ?_
  refine Wc.s0 [4, 5] [4] ?_
  cases h; exact Wc.ret dn
 refine Wc.s0 [0, 1, 4, 6, 7, 8, 84] [4, 7] ?_
 refine Wc.ci h (fun _ h => ?_) (fun _ h => ?_)
 ·exact (Zk h).elim
 refine Wc.seqJ (fun st => ∃ (u0s : Bool), st = ⟨[tS 0 uj, tI 1 u4, tP 4 4, tV 6 (.int .u8 (bt uj u4)), tP 7 7, tI 8 (wr.i64 (u4 + 1)), tB 101 u0s], [bC 4 Gn.z, bC 7 [aI 6, .str (eX uj u4), aI 0, aI u4, .bool false]], []⟩ ∧ Zc8 k uj u4 u0s = some r) ?_ ?_
 ·rcases oif h with ⟨h68, h⟩ | ⟨h68, h⟩
  ·refine Wc.k2 [{}, {}, rT] [0, 1, 4, 6, 7, 8, 101] [4, 7] (o1 (cb h68)) ?_
   exact ⟨_, stB h⟩
  refine Wc.k2 [{}, {}, rF] [0, 1, 4, 6, 7, 8, 101] [4, 7] (o1 (cb h68)) ?_
  exact ⟨_, stB h⟩
 rintro st ⟨u0s, rfl, h⟩
 refine Wc.ci h (fun _ h => ?_) (fun _ h => ?_)
 ·refine Wc.k0 [4, 7, 8] [4, 7] ?_
  refine Wc.s0 [4, 5] [4] ?_
  cases h; exact Wc.ret dn
 refine Wc.seqJ (fun st => ∃ (u62 : Bool), st = ⟨[tS 0 uj, tI 1 u4, tP 4 4, tV 6 (.int .u8 (bt uj u4)), tP 7 7, tI 8 (wr.i64 (u4 + 1)), tB 109 u62], [bC 4 Gn.z, bC 7 [aI 6, .str (eX uj u4), aI 0, aI u4, .bool false]], []⟩ ∧ Z5f k uj u4 u62 = some r) ?_ ?_
 ·rcases oif h with ⟨h63, h⟩ | ⟨h63, h⟩
  ·refine Wc.k2 [{}, {}, rT] [0, 1, 4, 6, 7, 8, 109] [4, 7] (o1 (cb h63)) ?_
   exact ⟨_, stB h⟩
  rcases oif h with ⟨h64, h⟩ | ⟨h64, h⟩
  ·refine Wc.k2 [{}, {}, rF, {}, {}, {}, rT] [0, 1, 4, 6, 7, 8, 109] [4, 7] (o2 (cb h63) (cb h64)) ?_
   exact ⟨_, stB h⟩
  rcases oif h with ⟨h65, h⟩ | ⟨h65, h⟩
  ·refine Wc.k2 [{}, {}, rF, {}, {}, {}, rF, {}, {}, {}, rT] [0, 1, 4, 6, 7, 8, 109] [4, 7] (o3 (cb h63) (cb h64) (cb h65)) ?_
   exact ⟨_, stB h⟩
  rcases oif h with ⟨h66, h⟩ | ⟨h66, h⟩
  ·refine Wc.k2 [{}, {}, rF, {}, {}, {}, rF, {}, {}, {}, rF, {}, {}, {}, rT] [0, 1, 4, 6, 7, 8, 109] [4, 7] (o4 (cb h63) (cb h64) (cb h65) (cb h66)) ?_
   exact ⟨_, stB h⟩
  rcases oif h with ⟨h67, h⟩ | ⟨h67, h⟩
  ·refine Wc.k2 [{}, {}, rF, {}, {}, {}, rF, {}, {}, {}, rF, {}, {}, {}, rF, {}, {}, {}, rT] [0, 1, 4, 6, 7, 8, 109] [4, 7] (oC (cb h63) (oC (cb h64) (oC (cb h65) (oC (cb h66) (oC (cb h67) AllP.nil))))) ?_
   exact ⟨_, stB h⟩
  refine Wc.k2 [{}, {}, rF, {}, {}, {}, rF, {}, {}, {}, rF, {}, {}, {}, rF, {}, {}, {}, rF] [0, 1, 4, 6, 7, 8, 109] [4, 7] (oC (cb h63) (oC (cb h64) (oC (cb h65) (oC (cb h66) (oC (cb h67) AllP.nil))))) ?_
  exact ⟨_, stB h⟩
 rintro st ⟨u62, rfl, h⟩
 refine Wc.ci h (fun _ h => ?_) (fun _ h => ?_)
 ·refine Wc.k0 [4, 7, 8] [4, 7] ?_
  refine Wc.s0 [4, 5] [4] ?_
  cases h; exact Wc.ret dn
 obtain ⟨u3f, h49, h⟩ := oc h fun _ => Zwn
 refine Wc.s2 [{}, {}, hC h49] [0, 1, 4, 6, 7, 8, 133] [4, 7] (o1 h49) ?_
 refine Wc.ci h (fun _ h => ?_) (fun _ h => ?_)
 ·refine Wc.k0 [4, 7, 8] [4, 7] ?_
  refine Wc.s0 [4, 5] [4] ?_
  cases h; exact Wc.ret dn
 obtain ⟨u0g, h52, h⟩ := oc h fun _ => Zcr
 refine Wc.s2 [{}, hC h52] [0, 1, 4, 7, 8, 138] [4, 7] (o1 h52) ?_
 refine Wc.ci h (fun _ h => ?_) (fun _ h => ?_)
 ·refine Wc.s0 [0, 1, 4, 7, 8, 13] [4, 7] ?_
  obtain ⟨out5, h55, h⟩ := Z2d h
  refine Wc.seqJ (fun st => ∃ (u0y : Int), out5 = .done u0y ∧ st = ⟨[tS 0 uj, tI 1 u4, tP 4 4, tP 7 7, tI 8 (wr.i64 (u4 + 1)), tI 13 u0y], [bC 4 Gn.z, bC 7 [aI 6, .str (eX uj u4), aI 0, aI u4, .bool false]], []⟩) ?_ ?_
  ·apply Wc.block
   refine Wc.loop (fun m st => ∃ (u0k : Int), st = ⟨[tS 0 uj, tI 1 u4, tP 4 4, tP 7 7, tI 8 (wr.i64 (u4 + 1)), tI 13 u0k], [bC 4 Gn.z, bC 7 [aI 6, .str (eX uj u4), aI 0, aI u4, .bool false]], []⟩ ∧ Zc6 k uj m u0k = some out5) ?_ k ⟨_, stB h55⟩
   rintro m st ⟨u0k, rfl, h55⟩
   rcases m with _ | m
   ·exact (Zk h55).elim
   apply Wc.seq
   rcases oif h55 with ⟨h56, h55⟩ | ⟨h56, h55⟩
   ·obtain ⟨h57, h55⟩ := Z4 h55
    obtain ⟨u61, h58, h55⟩ := oc h55 fun _ => Zcr
    refine Wc.s2 [{}, {}, {}, {}, rT, {}, {}, {}, hC h58] [0, 1, 4, 7, 8, 13, 151] [4, 7] (o3 (cb h56) h57 h58) ?_
    refine Wc.ci h55 (fun _ h55 => ?_) (fun _ h55 => ?_)
    ·refine Wc.ks [0, 1, 4, 7, 8, 13] [4, 7] ?_
     apply Wc.block
     refine Wc.k0 [0, 1, 4, 7, 8, 13] [4, 7] ?_
     exact ⟨_, Nat.lt_succ_self _, _, stB h55⟩
    refine Wc.ke [0, 1, 4, 7, 8, 13] [4, 7] ?_
    cases h55; exact ⟨_, rfl, by kernel_rfl⟩
   refine Wc.s2 [{}, {}, {}, {}, rF] [0, 1, 4, 7, 8, 13, 151] [4, 7] (o1 (cb h56)) ?_
   refine Wc.cF rfl ?_
   refine Wc.ke [0, 1, 4, 7, 8, 13] [4, 7] ?_
   cases h55; exact ⟨_, rfl, by kernel_rfl⟩
  rintro st ⟨u0y, rfl, rfl⟩
  refine Wc.s0 [0, 1, 4, 7, 8, 13, 157] [4, 7] ?_
  refine Wc.ci h (fun _ h => ?_) (fun _ h => ?_)
  ·refine Wc.s0 [0, 1, 4, 7, 13] [4, 7] ?_
   obtain ⟨h62, h⟩ := Z4 h
   refine Wc.s2 [] [4, 7, 13] [4, 7] (o1 h62) ?_
   refine Wc.k0 [4, 7, 8] [4, 7] ?_
   refine Wc.s0 [4, 5] [4] ?_
   cases h; exact Wc.ret dn
  refine Wc.ks [4, 7, 8] [4, 7] ?_
  refine Wc.s0 [4, 5] [4] ?_
  cases h; exact Wc.ret dn
 refine Wc.ks [4, 7, 8] [4, 7] ?_
 refine Wc.s0 [4, 5] [4] ?_
 cases h; exact Wc.ret dn

def Z7n (k : Nat) (vt : ByteArray) : Nat → (List Gn) → Int → Option (Out ((List Gn) × Bool) (List Gn))
 | 0, _, _ => none
 | m + 1, u31, vf =>
  if (decide (vf < (vt.size : Int))) = true then
   if 0 ≤ vf ∧ (vf).toNat < vt.size then
    (Zad k (bt vt vf)).bind fun u32 =>
    if u32 = true then
     Z7n k vt m u31 (wr.i64 (vf + 1))
    else
     if 0 ≤ vf ∧ (vf).toNat < vt.size then
      if ((bt vt vf) == 37) = true then
       none
      else
       (Zgn k vt vf).bind fun vi =>
       if (decide (vi.2 < (vt.size : Int))) = true then
        if 0 ≤ vi.2 ∧ (vi.2).toNat < vt.size then
         if u31.length + [Gn.mk vi.1.gi vi.1.gE vi.1.gj vi.1.gAt ((bt vt vi.2) == 40)].length ≤ 1073741824 then
          Z7n k vt m (u31 ++ [Gn.mk vi.1.gi vi.1.gE vi.1.gj vi.1.gAt ((bt vt vi.2) == 40)]) vi.2
         else none
        else none
       else
        if u31.length + [Gn.mk vi.1.gi vi.1.gE vi.1.gj vi.1.gAt false].length ≤ 1073741824 then
         Z7n k vt m (u31 ++ [Gn.mk vi.1.gi vi.1.gE vi.1.gj vi.1.gAt false]) vi.2
        else none
     else none
   else none
  else
   some (.done u31)
def Zgo (k : Nat) (vt : ByteArray) : Option ((List Gn) × Bool) :=
 if (decide ((vt.size : Int) > 3000)) = true then
  none
 else
  (Z7n k vt k [] 0).bind fun out1 => match out1 with
  | .ret r => some r
  | .done u63 =>
   some (u63, true)
theorem Ztx {k : Nat} {vt : ByteArray} {r : (List Gn) × Bool} (h : Zgo k vt = some r) : FnO Tryz.prog 42 [.v (.str vt) []] (.v (.tup [.sl (List.map Gn.c r.1), .bool r.2]) [(0, .app 106)]) [] := by
 refine FnO.o2 Tryz.func42 rfl fun _ _ _ _ _ _ => ?_
 unfold Zgo at h
 refine Wc.s0 [0] [] ?_
 have h34 := (Z2s Gn.c)
 refine Wc.s2 [hB h34, hK [8]] [0, 4] [] (o1 h34) ?_
 apply Wc.seq
 refine Wc.s0 [0, 4, 11] [] ?_
 refine Wc.ci h (fun _ h => ?_) (fun _ h => ?_)
 ·exact (Zk h).elim
 refine Wc.ks [0, 4] [] ?_
 refine Wc.s0 [0, 4, 5] [] ?_
 obtain ⟨out1, h36, h⟩ := Z2d h
 refine Wc.seqJ (fun st => ∃ (u63 : List Gn), out1 = .done u63 ∧ st = ⟨[(4, (.v (.sl (List.map Gn.c u63)), [(0, .app 106)]))], [], []⟩) ?_ ?_
 ·apply Wc.block
  refine Wc.loop (fun m st => ∃ (u31 : List Gn) (vf : Int), st = ⟨[tS 0 vt, (4, (.v (.sl (List.map Gn.c u31)), [(0, .app 106)])), tI 5 vf], [], []⟩ ∧ Z7n k vt m u31 vf = some out1) ?_ k ⟨_, _, stB h36⟩
  rintro m st ⟨u31, vf, rfl, h36⟩
  rcases m with _ | m
  ·exact (Zk h36).elim
  apply Wc.seq
  refine Wc.s0 [0, 4, 5, 16] [] ?_
  refine Wc.ci h36 (fun _ h36 => ?_) (fun _ h36 => ?_)
  ·refine Wc.ks [0, 4, 5] [] ?_
   apply Wc.block
   apply Wc.seq
   obtain ⟨h38, h36⟩ := Z4 h36
   obtain ⟨u32, h39, h36⟩ := oc h36 fun _ => Zf3
   refine Wc.s2 [{}, {}, {}, hC h39] [0, 4, 5, 20] [] (o2 h38 h39) ?_
   refine Wc.ci h36 (fun _ h36 => ?_) (fun _ h36 => ?_)
   ·refine Wc.s0 [0, 4, 5] [] ?_
    refine Wc.exit ?_
    exact ⟨_, Nat.lt_succ_self _, _, _, stB h36⟩
   refine Wc.ks [0, 4, 5] [] ?_
   apply Wc.seq
   obtain ⟨h42, h36⟩ := Z4 h36
   refine Wc.s2 [] [0, 4, 5, 26] [] (o1 h42) ?_
   refine Wc.ci h36 (fun _ h36 => ?_) (fun _ h36 => ?_)
   ·exact (Zk h36).elim
   refine Wc.ks [0, 4, 5] [] ?_
   obtain ⟨vi, h44, h36⟩ := oc h36 fun _ => Ztv
   refine Wc.s2 [{}, {}, hC h44] [0, 4, 6, 7] [6] (o1 h44) ?_
   rcases oif h36 with ⟨h46, h36⟩ | ⟨h46, h36⟩
   ·obtain ⟨h47, h36⟩ := Z4 h36
    refine Wc.s2 [{}, {}, {}, {}, rT] [0, 4, 6, 7] [6] (o2 (cb h46) h47) ?_
    have h48 := (Z1l (c := Gn.c) (x := Gn.mk vi.1.gi vi.1.gE vi.1.gj vi.1.gAt ((bt vt vi.2) == 40)) (Gn.c_eq (Gn.mk vi.1.gi vi.1.gE vi.1.gj vi.1.gAt ((bt vt vi.2) == 40))) (Z2s Gn.c))
    obtain ⟨h49, h36⟩ := Z4 h36
    have h50 := (Z30 Gn.c u31 [Gn.mk vi.1.gi vi.1.gE vi.1.gj vi.1.gAt ((bt vt vi.2) == 40)])
    refine Wc.s2 [hK [4], {}, hB h48, { hB h50 with tk := [56] }, hK [59]] [0, 4, 7] [] (oC h48 (oA h50 Gn.c_leaf Gn.c_len h49 AllP.nil)) ?_
    refine Wc.k0 [0, 4, 5] [] ?_
    exact ⟨_, Nat.lt_succ_self _, _, _, stB h36⟩
   refine Wc.s2 [{}, {}, {}, {}, rF] [0, 4, 6, 7] [6] (o1 (cb h46)) ?_
   have h51 := (Z1l (c := Gn.c) (x := Gn.mk vi.1.gi vi.1.gE vi.1.gj vi.1.gAt false) (Gn.c_eq (Gn.mk vi.1.gi vi.1.gE vi.1.gj vi.1.gAt false)) (Z2s Gn.c))
   obtain ⟨h52, h36⟩ := Z4 h36
   have h53 := (Z30 Gn.c u31 [Gn.mk vi.1.gi vi.1.gE vi.1.gj vi.1.gAt false])
   refine Wc.s2 [hK [4], {}, hB h51, { hB h53 with tk := [56] }, hK [59]] [0, 4, 7] [] (oC h51 (oA h53 Gn.c_leaf Gn.c_len h52 AllP.nil)) ?_
   refine Wc.k0 [0, 4, 5] [] ?_
   exact ⟨_, Nat.lt_succ_self _, _, _, stB h36⟩
  refine Wc.ke [4] [] ?_
  cases h36; exact ⟨_, rfl, by kernel_rfl⟩
 rintro st ⟨u63, rfl, rfl⟩
 refine Wc.s1 [hK [4], hK [61]] [2, 3] [] ?_
 cases h; exact Wc.ret dn

def Zdd (k : Nat) (u4s : List Gn) (vn : Int) : Option (Gt × (List ByteArray) × Int × Bool) :=
 (Zd9 k u4s vn).bind fun uu =>
 (Zap k vn 0 (wr.i64 ((u4s.length : Int) - 1))).bind fun u1i =>
 if (!u1i) = true then
  none
 else
  (Zq k (GXr.mk u4s vn false 0 []) 1200).bind fun u7o =>
  (Z3a k u7o.1 5 (bs [])).bind fun u5g =>
  if (!u5g.2) = true then
   none
  else
   (Z7l k u7o.2).bind fun u2a =>
   if (!u2a) = true then
    none
   else
    if ([] : List ByteArray).length + u5g.1.gG.length ≤ 1073741824 then
     some (u7o.2, u5g.1.gG, wr.i64 (u5g.1.gAt + 1), true)
    else none
theorem Zpn {k : Nat} {u4s : List Gn} {vn : Int} {r : Gt × (List ByteArray) × Int × Bool} (h : Zdd k u4s vn = some r) : FnO Tryz.prog 43 [.v (.sl (List.map Gn.c u4s)) [], .v (aI vn) []] (.v (.tup [.agg (Gt.q r.1), .sl (List.map cS r.2.1), aI r.2.2.1, .bool r.2.2.2]) [(4, .app 9)]) [] := by
 refine FnO.o2 Tryz.func43 rfl fun _ _ _ _ _ _ => ?_
 unfold Zdd at h
 refine Wc.s0 [0, 1, 4] [4] ?_
 obtain ⟨uu, h32, h⟩ := oc h fun _ => Zpj
 refine Wc.s2 [{}, {}, hC h32] [0, 1, 4] [4] (o1 h32) ?_
 apply Wc.seq
 obtain ⟨u1i, h34, h⟩ := oc h fun _ => Zec
 refine Wc.s2 [{}, {}, hL u4s, {}, hC h34] [0, 1, 4, 19] [4] (o2 (Z2 Gn.c u4s) h34) ?_
 refine Wc.ci h (fun _ h => ?_) (fun _ h => ?_)
 ·exact (Zk h).elim
 refine Wc.ks [0, 1, 4] [4] ?_
 refine Wc.s1 [{}, {}, {}, hK [25]] [4, 9] [4, 26] ?_
 obtain ⟨u7o, h37, h⟩ := oc h fun _ => Zki
 refine Wc.s2 [{}, { hC h37 with fx := [.ow (.b 26 4) false] }] [4, 9, 10] [4, 10, 26] (o1 h37) ?_
 apply Wc.seq
 obtain ⟨u5g, h39, h⟩ := oc h fun _ => Z4r
 rcases oif h with ⟨h40, h⟩ | ⟨h40, h⟩
 ·refine Wc.s2 [{}, hC h39, {}, rT] [4, 9, 10, 36] [4, 10, 26] (o2 h39 (cb h40)) ?_
  refine Wc.cT rfl ?_
  exact (Zk h).elim
 obtain ⟨u2a, h41, h⟩ := oc h fun _ => Zal
 refine Wc.s2 [{}, hC h39, {}, rF, {}, hC h41] [4, 9, 10, 36] [4, 10, 26] (o3 h39 (cb h40) h41) ?_
 refine Wc.ci h (fun _ h => ?_) (fun _ h => ?_)
 ·exact (Zk h).elim
 refine Wc.ks [4, 9, 10] [4, 10, 26] ?_
 apply Wc.seq
 have h45 := (cR cS [])
 obtain ⟨h46, h⟩ := Z4 h
 have h47 := (Zh9 cS u5g.1.gG)
 refine Wc.dk hmix [{}, hB h45, {}, {}, {}, {}, { hB h47 with tk := [41] }, {}, {}, {}, {}, {}, {}, hK [46]] [] [4, 5, 6, 7] [4] [] (oC h45 (oE h47 Zh5 Zau h46 AllP.nil)) ?_
 cases h; exact Wc.ret dn

def Z71 (k : Nat) (u02 : ByteArray) : Option (Gt × (List ByteArray) × Bool) :=
 (Zgo k u02).bind fun u64 =>
 (Zdd k u64.1 0).bind fun u65 =>
 if (!u65.2.2.2) = true then
  none
 else
  if (u65.2.2.1 != (u64.1.length : Int)) = true then
   none
  else
   some (u65.1, u65.2.1, true)
theorem Zf4 {k : Nat} {u02 : ByteArray} {r : Gt × (List ByteArray) × Bool} (h : Z71 k u02 = some r) : FnO Tryz.prog 23 [.v (.str u02) []] (.v (.tup [.agg (Gt.q r.1), .sl (List.map cS r.2.1), .bool r.2.2]) [(4, .app 9)]) [] := by
 refine FnO.o2 Tryz.func23 rfl fun _ _ _ _ _ _ => ?_
 unfold Z71 at h
 refine Wc.s0 [0, 2] [2] ?_
 obtain ⟨u64, h20, h⟩ := oc h fun _ => Ztx
 refine Wc.s2 [{}, hC h20, hK [13], hK [11], {}, hK [14]] [2, 5] [2] (o1 h20) ?_
 obtain ⟨u65, h22, h⟩ := oc h fun _ => Zpn
 refine Wc.s2 [{}, hC h22, hK [18], {}, hK [16], {}, {}, {}, {}, hK [20]] [2, 5, 7, 8, 9, 10] [2, 7] (o1 h22) ?_
 apply Wc.seq
 rcases oif h with ⟨h24, h⟩ | ⟨h24, h⟩
 ·refine Wc.s2 [{}, {}, rT] [2, 7, 8, 30] [2, 7] (o1 (cb h24)) ?_
  refine Wc.cT rfl ?_
  exact (Zk h).elim
 refine Wc.s2 [{}, {}, rF, {}, hK [5], hL u64.1] [2, 7, 8, 30] [2, 7] (o2 (cb h24) (Z2 Gn.c u64.1)) ?_
 refine Wc.ci h (fun _ h => ?_) (fun _ h => ?_)
 ·exact (Zk h).elim
 refine Wc.ks [2, 7, 8] [2, 7] ?_
 refine Wc.s1 [{}, hK [8], {}, hK [34]] [2, 3, 4] [2] ?_
 cases h; exact Wc.ret dn

def Zep (k : Nat) (uk : Gt) (vt : ByteArray) : Option (Gc × Bool) :=
 (Z82 k uk vt).bind fun u8x =>
 (Zao k u8x.1).bind fun u20 =>
 some (u20, u8x.2)
theorem Zrc {k : Nat} {uk : Gt} {vt : ByteArray} {r : Gc × Bool} (h : Zep k uk vt = some r) : FnO Tryz.prog 24 [.v (.agg (Gt.q uk)) [], .v (.str vt) []] (.v (.tup [.agg (Gc.q r.1), .bool r.2]) [(3, .app 31), (7, .app 31)]) [] := by
 refine FnO.o2 Tryz.func24 rfl fun _ _ _ _ _ _ => ?_
 unfold Zep at h
 refine Wc.s0 [1, 2, 4] [2, 4] ?_
 obtain ⟨u8x, h24, h⟩ := oc h fun _ => Zh7
 refine Wc.s2 [{}, {}, hC h24] [4, 6, 7] [4, 6] (o1 h24) ?_
 obtain ⟨u20, h26, h⟩ := oc h fun _ => Zhs
 refine Wc.s2 [{}, hC h26, {}, hK [15]] [4, 5] [4] (o1 h26) ?_
 cases h; exact Wc.ret dn

def Zmr (k : Nat) (u7p : Gd) (u20 : Gc) : Option (Gd × Bool) :=
 (Zaz k u7p u20).bind fun u8y =>
 (Zic k u8y.1).bind fun u9p =>
 some (u9p, u8y.2)
theorem Zyo {k : Nat} {u7p : Gd} {u20 : Gc} {r : Gd × Bool} (h : Zmr k u7p u20 = some r) : FnO Tryz.prog 25 [.v (.agg (Gd.q u7p)) [], .v (.agg (Gc.q u20)) []] (.v (.tup [.agg (Gd.q r.1), .bool r.2]) [(0, .app 63), (1, .app 9)]) [] := by
 refine FnO.o2 Tryz.func25 rfl fun _ _ _ _ _ _ => ?_
 unfold Zmr at h
 refine Wc.s0 [2, 3, 4] [2, 3, 4] ?_
 obtain ⟨u8y, h28, h⟩ := oc h fun _ => Zl5
 refine Wc.s2 [{}, {}, hC h28, hK [11], hK [8], {}, {}, hK [12]] [4, 6, 7] [4, 6] (o1 h28) ?_
 obtain ⟨u9p, h30, h⟩ := oc h fun _ => Zso
 refine Wc.s2 [{}, hC h30, {}, hK [15]] [4, 5] [4] (o1 h30) ?_
 cases h; exact Wc.ret dn

def Z85 (k : Nat) (u3w : GXc) (v7 : Int) : Option (GXc × Bool) :=
 (Z66 k u3w v7).bind fun u8z =>
 some (u8z.1, (u8z.2 == 0))
theorem Zm9 {k : Nat} {u3w : GXc} {v7 : Int} {r : GXc × Bool} (h : Z85 k u3w v7 = some r) : FnO Tryz.prog 26 [.p (GXc.q u3w) [], .v (aI v7) []] (.v (.bool r.2) []) [(0, .p (GXc.q r.1) [])] := by
 refine FnO.o2 Tryz.func26 rfl fun _ _ _ _ _ _ => ?_
 unfold Z85 at h
 refine Wc.s0 [0, 1] [1000000] ?_
 obtain ⟨u8z, h31, h⟩ := oc h fun _ => Zcq
 refine Wc.s2 [{}, {}, hC h31] [4] [1000000] (o1 h31) ?_
 cases h; exact Wc.ret dn

def Zbn (k : Nat) (u7q : Gd) (u7r : ByteArray) : Option Gd :=
 (Za7 k u7q u7r).bind fun u47 =>
 (Zic k u47).bind fun u9q =>
 some u9q
theorem Zwr {k : Nat} {u7q : Gd} {u7r : ByteArray} {r : Gd} (h : Zbn k u7q u7r = some r) : FnO Tryz.prog 27 [.v (.agg (Gd.q u7q)) [], .v (.str u7r) []] (.v (.agg (Gd.q r)) [(0, .app 63), (1, .app 9)]) [] := by
 refine FnO.o2 Tryz.func27 rfl fun _ _ _ _ _ _ => ?_
 unfold Zbn at h
 refine Wc.s0 [1, 2, 4] [2, 4] ?_
 obtain ⟨u47, h38, h⟩ := oc h fun _ => Zkh
 refine Wc.s2 [{}, {}, hC h38, {}, hK [8]] [4, 5] [4, 5] (o1 h38) ?_
 obtain ⟨u9q, h40, h⟩ := oc h fun _ => Zso
 refine Wc.s2 [{}, hC h40, hK [10]] [4] [4] (o1 h40) ?_
 cases h; exact Wc.ret dn

def Za9 (k : Nat) (bk_ : Int → Gd → Option (Out (GXc × Gd) Gd)) (u2f : Gd) (u3i : Gc × Bool) (vo : Int) (u0g : Bool) : Option (Out (GXc × Gd) Gd) :=
 if u0g = true then
  (Zmr k u2f u3i.1).bind fun u9r =>
  bk_ (wr.i64 (vo + 1)) u9r.1
 else
  bk_ (wr.i64 (vo + 1)) u2f
def Z5e (k : Nat) (u21 : (List ByteArray)) (u1j : GXc × Int) : Nat → Int → Gd → Option (Out (GXc × Gd) Gd)
 | 0, _, _ => none
 | m + 1, vo, u2f =>
  if (decide (vo < (u21.length : Int))) = true then
   (at' u21 vo).bind fun zt =>
   if Z36 zt (bs [32, 46]) then
    (Z71 k (zt ++ (bs [32, 46]))).bind fun u90 =>
    if (3 : Int) ≠ 0 then
     (at' [(bs [111, 110, 101]), (bs [116, 119, 111]), (bs [])] (Int.tmod vo 3)).bind fun u48 =>
     (Zep k u90.1 u48).bind fun u3i =>
     if u90.2.2 = true then
      if u3i.2 = true then
       if (u1j.2 == 0) = true then
        Za9 k (Z5e k u21 u1j m) u2f u3i vo true
       else
        if (7 : Int) ≠ 0 then
         Za9 k (Z5e k u21 u1j m) u2f u3i vo ((Int.tmod vo 7) != u1j.2)
        else none
      else
       Za9 k (Z5e k u21 u1j m) u2f u3i vo false
     else
      Za9 k (Z5e k u21 u1j m) u2f u3i vo false
    else none
   else none
  else
   some (.done u2f)
def Zid (k : Nat) (u7s : GXc) : Option (GXc × Gd) :=
 (Za8 k).bind fun u21 =>
 (Z66 k u7s 7).bind fun u1j =>
 (Z5e k u21 u1j k 0 (Gd.mk [] [])).bind fun out1 => match out1 with
 | .ret r => some r
 | .done u47 =>
  (Z85 k u1j.1 2).bind fun u7t =>
  if u7t.2 = true then
   (Zbn k u47 (bs [117, 110, 107, 110, 111, 119, 110, 47, 49])).bind fun u9s =>
   some (u7t.1, u9s)
  else
   some (u7t.1, u47)
theorem Zym {k : Nat} {u7s : GXc} {r : GXc × Gd} (h : Zid k u7s = some r) : FnO Tryz.prog 8 [.p (GXc.q u7s) []] (.v (.agg (Gd.q r.2)) [(0, .app 63), (1, .app 9)]) [(0, .p (GXc.q r.1) [])] := by
 refine FnO.o2 Tryz.func8 rfl fun _ _ _ _ _ _ => ?_
 unfold Zid at h
 refine Wc.s0 [0, 2] [2, 1000000] ?_
 refine Wc.s1 [{}, {}, hK [12]] [0, 2, 3] [2, 3, 1000000] ?_
 obtain ⟨u21, h36, h⟩ := oc h fun _ => Zr6
 refine Wc.s2 [hC h36, hK [13]] [0, 2, 3, 4] [2, 3, 1000000] (o1 h36) ?_
 obtain ⟨u1j, h38, h⟩ := oc h fun _ => Zcq
 refine Wc.s2 [{}, hC h38] [0, 2, 3, 4, 5] [2, 3, 1000000] (o1 h38) ?_
 apply Wc.seq
 refine Wc.s0 [0, 2, 3, 4, 5, 6] [2, 3, 1000000] ?_
 obtain ⟨out1, h40, h⟩ := Z2d h
 refine Wc.lastJ (fun st => ∃ (u47 : Gd), out1 = .done u47 ∧ st = ⟨[tP 0 1000000, tP 2 2, tP 3 3], [(2, .cells Gd.z [(0, .app 63), (1, .app 9)]), (3, .cells (Gd.q u47) [(0, .app 63), (1, .app 9)]), bC 1000000 (GXc.q u1j.1)], []⟩) ?_ ?_
 ·apply Wc.block
  refine Wc.loop (fun m st => ∃ (vo : Int) (u2f : Gd), st = ⟨[tP 0 1000000, tP 2 2, tP 3 3, (4, (.v (.sl (List.map cS u21)), [(0, .app 9)])), tI 5 u1j.2, tI 6 vo], [(2, .cells Gd.z [(0, .app 63), (1, .app 9)]), (3, .cells (Gd.q u2f) [(0, .app 63), (1, .app 9)]), bC 1000000 (GXc.q u1j.1)], []⟩ ∧ Z5e k u21 u1j m vo u2f = some out1) ?_ k ⟨_, _, stB h40⟩
  rintro m st ⟨vo, u2f, rfl, h40⟩
  rcases m with _ | m
  ·exact (Zk h40).elim
  apply Wc.seq
  refine Wc.s2 [{}, {}, hL u21] [0, 2, 3, 4, 5, 6, 19] [2, 3, 1000000] (o1 (Z2 cS u21)) ?_
  refine Wc.ci h40 (fun _ h40 => ?_) (fun _ h40 => ?_)
  ·refine Wc.ks [0, 2, 3, 4, 5, 6] [2, 3, 1000000] ?_
   apply Wc.seq
   apply Wc.block
   obtain ⟨zt, h42, h40⟩ := oc h40 fun zt h42 => (Z11 (c := cS) rfl Zau h42)
   obtain ⟨h43, h40⟩ := Z4 h40
   obtain ⟨u90, h44, h40⟩ := oc h40 fun _ => Zf4
   refine Wc.s2 [{}, {}, hE h42, {}, {}, hC h44, hK [28], {}, hK [22], {}, {}, {}, hK [30]] [0, 2, 3, 4, 5, 6, 7, 9] [2, 3, 7, 1000000] (o4 h42 (lenE h42 1) h43 h44) ?_
   apply Wc.seq
   have h47 := (cR cS [(bs [111, 110, 101]), (bs [116, 119, 111]), (bs [])])
   obtain ⟨h48, h40⟩ := Z4 h40
   obtain ⟨u48, h49, h40⟩ := oc h40 fun u48 h49 => (Z11 (c := cS) rfl Zau h49)
   obtain ⟨u3i, h50, h40⟩ := oc h40 fun u3i h50 => (FnO.un (Zrc h50))
   refine Wc.dk hmix [{}, hB h47, {}, {}, hE h49, {}, hC h50] [] [0, 2, 3, 4, 5, 6, 9, 10, 11] [2, 3, 10, 1000000] [] (oC h47 (oC h48 (oC h49 (oC (lenE h49 1) (oC h50 AllP.nil))))) ?_
   refine Wc.seqJ (fun st => ∃ (u0g : Bool), st = ⟨[tP 0 1000000, tP 2 2, tP 3 3, (4, (.v (.sl (List.map cS u21)), [(0, .app 9)])), tI 5 u1j.2, tI 6 vo, tP 10 10, tB 55 u0g], [(2, .cells Gd.z [(0, .app 63), (1, .app 9)]), (3, .cells (Gd.q u2f) [(0, .app 63), (1, .app 9)]), bC 10 (Gc.q u3i.1), bC 1000000 (GXc.q u1j.1)], []⟩ ∧ Za9 k (Z5e k u21 u1j m) u2f u3i vo u0g = some out1) ?_ ?_
   ·rcases oif h40 with ⟨h56, h40⟩ | ⟨h56, h40⟩
    ·rcases oif h40 with ⟨h57, h40⟩ | ⟨h57, h40⟩
     ·rcases oif h40 with ⟨h58, h40⟩ | ⟨h58, h40⟩
      ·refine Wc.k2 [{}, rT, {}, {}, rT, {}, {}, rT] [0, 2, 3, 4, 5, 6, 10, 55] [2, 3, 10, 1000000] (o3 (cb h56) (cb h57) (cb h58)) ?_
       exact ⟨_, stB h40⟩
      obtain ⟨h59, h40⟩ := Z4 h40
      refine Wc.k2 [{}, rT, {}, {}, rT, {}, {}, rF] [0, 2, 3, 4, 5, 6, 10, 55] [2, 3, 10, 1000000] (o4 (cb h56) (cb h57) (cb h58) h59) ?_
      exact ⟨_, stB h40⟩
     refine Wc.k2 [{}, rT, {}, {}, rF] [0, 2, 3, 4, 5, 6, 10, 55] [2, 3, 10, 1000000] (o2 (cb h56) (cb h57)) ?_
     exact ⟨_, stB h40⟩
    refine Wc.k2 [{}, rF] [0, 2, 3, 4, 5, 6, 10, 55] [2, 3, 10, 1000000] (o1 (cb h56)) ?_
    exact ⟨_, stB h40⟩
   rintro st ⟨u0g, rfl, h40⟩
   refine Wc.ci h40 (fun _ h40 => ?_) (fun _ h40 => ?_)
   ·obtain ⟨u9r, h54, h40⟩ := oc h40 fun _ => Zyo
    refine Wc.k2 [{}, {}, hC h54, hK [59], hK [56], {}, hK [60]] [0, 2, 3, 4, 5, 6] [2, 3, 1000000] (o1 h54) ?_
    refine Wc.k0 [0, 2, 3, 4, 5, 6] [2, 3, 1000000] ?_
    exact ⟨_, Nat.lt_succ_self _, _, _, stB h40⟩
   refine Wc.ks [0, 2, 3, 4, 5, 6] [2, 3, 1000000] ?_
   refine Wc.k0 [0, 2, 3, 4, 5, 6] [2, 3, 1000000] ?_
   exact ⟨_, Nat.lt_succ_self _, _, _, stB h40⟩
  refine Wc.ke [0, 2, 3] [2, 3, 1000000] ?_
  cases h40; exact ⟨_, rfl, by kernel_rfl⟩
 rintro st ⟨u47, rfl, rfl⟩
 apply Wc.seq
 obtain ⟨u7t, h60, h⟩ := oc h fun _ => Zm9
 refine Wc.s2 [{}, hC h60] [2, 3, 63] [2, 3, 1000000] (o1 h60) ?_
 refine Wc.ci h (fun _ h => ?_) (fun _ h => ?_)
 ·obtain ⟨u9s, h63, h⟩ := oc h fun _ => Zwr
  refine Wc.k2 [{}, hC h63, hK [65]] [2, 3] [2, 3, 1000000] (o1 h63) ?_
  refine Wc.s1 [hM 1, hK [66]] [2] [2, 1000000] ?_
  cases h; exact Wc.ret dn
 refine Wc.ks [2, 3] [2, 3, 1000000] ?_
 refine Wc.s1 [hM 1, hK [66]] [2] [2, 1000000] ?_
 cases h; exact Wc.ret dn

def Zb0 (k : Nat) (Z8d : Gt → Int → Option Gt) (ub : Gt) (v0 : Int) : Nat → Int → Gt → Option (Out Gt Gt)
 | 0, _, _ => none
 | m + 1, va, uk =>
  if (decide (va < (ub.ga.length : Int))) = true then
   (at' ub.ga va).bind fun zh =>
   (Z8d zh v0).bind fun zv =>
   if uk.ga.length + [zv].length ≤ 1073741824 then
    Zb0 k Z8d ub v0 m (wr.i64 (va + 1)) (Gt.mk uk.gi uk.gn uk.gj (uk.ga ++ [zv]))
   else none
  else
   some (.done uk)
def Zb1 (k : Nat) (Z8d : Gt → Int → Option Gt) (ub : Gt) (v0 : Int) (z3 : Gt) : Option Gt :=
 (Zb0 k Z8d ub v0 k 0 (Gt.mk z3.gi z3.gn z3.gj [])).bind fun out2 => match out2 with
 | .ret r => some r
 | .done zu =>
  some zu
mutual
def Z5g : Nat → Gt → Int → Option Gt
 | 0, _, _ => none
 | k + 1, ub, v0 =>
  if (ub.gi == 1) = true then
   Zb1 k (Z5g k) ub v0 (Gt.mk ub.gi ub.gn (wr.i64 (ub.gj + v0)) ub.ga)
  else
   Zb1 k (Z5g k) ub v0 ub
end
theorem Zkp : ∀ k : Nat, (∀ {ub : Gt} {v0 : Int} {r : Gt}, Z5g k ub v0 = some r → FnO Tryz.prog 80 [.v (.agg (Gt.q ub)) [], .v (aI v0) []] (.v (.agg (Gt.q r)) [(3, .app 31)]) []) := by
 intro k
 induction k with
 | zero =>
  ·intro ub v0 r h
   exact (Zk (by rw [Z5g] at h; exact h)).elim
 | succ k ih =>
  have Zky := @ih
  ·intro ub v0 r h
   rw [Z5g] at h
   refine FnO.o2 Tryz.func80 rfl fun _ _ _ _ _ _ => ?_
   refine Wc.s0 [1, 2, 4] [2, 4] ?_
   refine Wc.s0 [1, 2, 4, 5] [2, 4, 5] ?_
   refine Wc.seqJ (fun st => ∃ (z3 : Gt), st = ⟨[tI 1 v0, tP 2 2, tP 4 4, tP 5 5], [bC 2 (Gt.q ub), bX0 4, bC 5 (Gt.q z3)], []⟩ ∧ Zb1 k (Z5g k) ub v0 z3 = some r) ?_ ?_
   ·refine Wc.s0 [1, 2, 4, 5, 10] [2, 4, 5] ?_
    refine Wc.ci h (fun _ h => ?_) (fun _ h => ?_)
    ·refine Wc.k0 [1, 2, 4, 5] [2, 4, 5] ?_
     exact ⟨_, stB h⟩
    refine Wc.ks [1, 2, 4, 5] [2, 4, 5] ?_
    exact ⟨_, stB h⟩
   rintro st ⟨z3, rfl, h⟩
   have h19 := (Z2s Gt.c)
   refine Wc.s2 [hB h19, {}, hK [16]] [1, 2, 4, 5] [2, 4, 5] (o1 h19) ?_
   apply Wc.seq
   refine Wc.s0 [1, 2, 4, 5, 6] [2, 4, 5] ?_
   obtain ⟨out2, h20, h⟩ := Z2d h
   refine Wc.lastJ (fun st => ∃ (zu : Gt), out2 = .done zu ∧ st = ⟨[tP 4 4, tP 5 5], [bX0 4, (5, .cells (Gt.q zu) [(3, .app 31)])], []⟩) ?_ ?_
   ·apply Wc.block
    refine Wc.loop (fun m st => ∃ (va : Int) (uk : Gt), st = ⟨[tI 1 v0, tP 2 2, tP 4 4, tP 5 5, tI 6 va], [bC 2 (Gt.q ub), bX0 4, (5, .cells (Gt.q uk) [(3, .app 31)])], []⟩ ∧ Zb0 k (Z5g k) ub v0 m va uk = some out2) ?_ k ⟨_, _, stB h20⟩
    rintro m st ⟨va, uk, rfl, h20⟩
    rcases m with _ | m
    ·exact (Zk h20).elim
    apply Wc.seq
    refine Wc.s2 [{}, {}, {}, hL ub.ga] [1, 2, 4, 5, 6, 22] [2, 4, 5] (o1 (Z2 Gt.c ub.ga)) ?_
    refine Wc.ci h20 (fun _ h20 => ?_) (fun _ h20 => ?_)
    ·refine Wc.ks [1, 2, 4, 5, 6] [2, 4, 5] ?_
     apply Wc.seq
     apply Wc.block
     obtain ⟨zh, h22, h20⟩ := oc h20 fun zh h22 => (Z11 (c := Gt.c) (Gt.c_eq zh) Gt.c_len h22)
     obtain ⟨zv, h23, h20⟩ := oc h20 fun _ => Zky
     have h24 := (Z1l (c := Gt.c) (x := zv) (Gt.c_eq zv) (Z2s Gt.c))
     obtain ⟨h25, h20⟩ := Z4 h20
     have h26 := (Z30 Gt.c uk.ga [zv])
     refine Wc.dk hmix [{}, hM 1, {}, {}, {}, hE h22, {}, {}, hC h23, hB h24, { hB h26 with tk := [26] }, {}, hK [35]] [] [1, 2, 4, 5, 6] [2, 4, 5] [] (oC h22 (oC (lenE h22 4) (oC h23 (oC h24 (oA h26 Gt.c_leaf Gt.c_len h25 AllP.nil))))) ?_
     refine Wc.k0 [1, 2, 4, 5, 6] [2, 4, 5] ?_
     exact ⟨_, Nat.lt_succ_self _, _, _, stB h20⟩
    refine Wc.ke [4, 5] [4, 5] ?_
    cases h20; exact ⟨_, rfl, by kernel_rfl⟩
   rintro st ⟨zu, rfl, rfl⟩
   refine Wc.s1 [hM 1, hK [37]] [4] [4] ?_
   cases h; exact Wc.ret dn
theorem Zr7 {k : Nat} {ub : Gt} {v0 : Int} {r : Gt} (h : Z5g k ub v0 = some r) : FnO Tryz.prog 80 [.v (.agg (Gt.q ub)) [], .v (aI v0) []] (.v (.agg (Gt.q r)) [(3, .app 31)]) [] := (Zkp k) h

def Z95 (k : Nat) (vp : Gt) (uo : Int) : Option Gt :=
 (Z7l k vp).bind fun u1a =>
 if (!u1a) = true then
  none
 else
  (Zap k uo (-99999) 99999).bind fun u1b =>
  if (!u1b) = true then
   none
  else
   (Z5g k vp uo).bind fun ub =>
   (Z7l k ub).bind fun zm =>
   if (!zm) = true then
    none
   else
    some ub
theorem Zi8 {k : Nat} {vp : Gt} {uo : Int} {r : Gt} (h : Z95 k vp uo = some r) : FnO Tryz.prog 49 [.v (.agg (Gt.q vp)) [], .v (aI uo) []] (.v (.agg (Gt.q r)) [(3, .app 31)]) [] := by
 refine FnO.o2 Tryz.func49 rfl fun _ _ _ _ _ _ => ?_
 unfold Z95 at h
 refine Wc.s0 [1, 2, 4] [2, 4] ?_
 apply Wc.seq
 obtain ⟨u1a, h13, h⟩ := oc h fun _ => Zal
 rcases oif h with ⟨h14, h⟩ | ⟨h14, h⟩
 ·refine Wc.s2 [{}, hC h13, {}, rT] [1, 2, 4, 13] [2, 4] (o2 h13 (cb h14)) ?_
  refine Wc.cT rfl ?_
  exact (Zk h).elim
 obtain ⟨u1b, h15, h⟩ := oc h fun _ => Zec
 refine Wc.s2 [{}, hC h13, {}, rF, {}, hC h15] [1, 2, 4, 13] [2, 4] (o3 h13 (cb h14) h15) ?_
 refine Wc.ci h (fun _ h => ?_) (fun _ h => ?_)
 ·exact (Zk h).elim
 refine Wc.ks [1, 2, 4] [2, 4] ?_
 obtain ⟨ub, h19, h⟩ := oc h fun _ => Zr7
 refine Wc.s2 [{}, {}, hC h19, {}, hK [17]] [4, 5] [4, 5] (o1 h19) ?_
 apply Wc.seq
 obtain ⟨zm, h21, h⟩ := oc h fun _ => Zal
 refine Wc.s2 [{}, hC h21] [4, 5, 20] [4, 5] (o1 h21) ?_
 refine Wc.ci h (fun _ h => ?_) (fun _ h => ?_)
 ·exact (Zk h).elim
 refine Wc.ks [4, 5] [4, 5] ?_
 refine Wc.s1 [hM 1, hK [22]] [4] [4] ?_
 cases h; exact Wc.ret dn

def Z9o (k : Nat) : Option (List ByteArray) :=
 some [(bs [112, 40, 88, 41]), (bs [113, 40, 88, 41]), (bs [114, 40, 88, 44, 32, 89, 41]), (bs [97, 112, 112, 40, 88, 44, 32, 89, 44, 32, 91, 97, 44, 32, 98, 93, 41]), (bs [108, 101, 110, 40, 91, 97, 44, 32, 98, 93, 44, 32, 78, 41]), (bs [115, 40, 88, 41]), (bs [116, 40, 88, 41]), (bs [117, 40, 122, 41]), (bs [119, 40, 88, 41, 44, 32, 102, 97, 105, 108]), (bs [99, 40, 88, 41]), (bs [101, 40, 98, 97, 108, 108, 41]), (bs [110, 40, 88, 41]), (bs [109, 40, 88, 41]), (bs [97, 100, 100, 40, 101, 41, 44, 32, 112, 40, 88, 41]), (bs [100, 101, 108, 40, 88, 41, 44, 32, 112, 40, 89, 41]), (bs [108, 111, 111, 112]), (bs [118, 40, 88, 41]), (bs [100, 40, 88, 44, 32, 89, 41]), (bs [103, 40, 104, 40, 97, 41, 44, 32, 89, 41]), (bs [103, 40, 88, 44, 32, 89, 41]), (bs [107, 40, 49, 41]), (bs [121, 40, 88, 41]), (bs [88, 32, 61, 32, 102, 40, 88, 41]), (bs [99, 97, 116, 99, 104, 40, 102, 97, 105, 108, 44, 32, 95, 44, 32, 116, 114, 117, 101, 41]), (bs [40, 112, 40, 88, 41, 44, 32, 33, 32, 59, 32, 113, 40, 88, 41, 41]), (bs [92, 43, 32, 112, 40, 122, 41]), (bs [119, 114, 105, 116, 101, 40, 88, 41, 44, 32, 88, 32, 61, 32, 49]), (bs [88]), (bs [51]), (bs [116, 104, 114, 111, 119, 40, 102, 40, 88, 41, 41]), (bs [99, 97, 116, 99, 104, 40, 112, 40, 88, 41, 44, 32, 95, 44, 32, 116, 114, 117, 101, 41, 44, 32, 116, 104, 114, 111, 119, 40, 120, 41]), (bs [40, 112, 40, 88, 41, 32, 45, 62, 32, 113, 40, 89, 41, 32, 59, 32, 116, 114, 117, 101, 41]), (bs [99, 97, 108, 108, 40, 97, 112, 112, 40, 91, 97, 93, 41, 44, 32, 88, 44, 32, 89, 41]), (bs [112, 40, 88, 41, 44, 32, 97, 115, 115, 101, 114, 116, 122, 40, 40, 112, 50, 40, 89, 41, 32, 58, 45, 32, 112, 40, 89, 41, 41, 41, 44, 32, 112, 50, 40, 90, 41]), (bs [97, 116, 111, 109, 40, 88, 41]), (bs [114, 101, 116, 114, 97, 99, 116, 40, 40, 113, 40, 88, 41, 32, 58, 45, 32, 112, 40, 88, 41, 41, 41]), (bs [88, 32, 61, 61, 32, 88, 44, 32, 88, 32, 92, 61, 32, 97]), (bs [112, 40, 88, 41, 44, 32, 88, 32, 61, 61, 32, 98]), (bs [97, 112, 112, 40, 88, 44, 32, 91, 99, 124, 89, 93, 44, 32, 90, 41])]
theorem Zm4 {k : Nat} {r : (List ByteArray)} (h : Z9o k = some r) : FnO Tryz.prog 29 [] (.v (.sl (List.map cS r)) [(0, .app 9)]) [] := by
 refine FnO.o2 Tryz.func29 rfl fun _ _ _ _ _ _ => ?_
 unfold Z9o at h
 refine Wc.s0 [] [] ?_
 have h3 := (cR cS [(bs [112, 40, 88, 41]), (bs [113, 40, 88, 41]), (bs [114, 40, 88, 44, 32, 89, 41]), (bs [97, 112, 112, 40, 88, 44, 32, 89, 44, 32, 91, 97, 44, 32, 98, 93, 41]), (bs [108, 101, 110, 40, 91, 97, 44, 32, 98, 93, 44, 32, 78, 41]), (bs [115, 40, 88, 41]), (bs [116, 40, 88, 41]), (bs [117, 40, 122, 41]), (bs [119, 40, 88, 41, 44, 32, 102, 97, 105, 108]), (bs [99, 40, 88, 41]), (bs [101, 40, 98, 97, 108, 108, 41]), (bs [110, 40, 88, 41]), (bs [109, 40, 88, 41]), (bs [97, 100, 100, 40, 101, 41, 44, 32, 112, 40, 88, 41]), (bs [100, 101, 108, 40, 88, 41, 44, 32, 112, 40, 89, 41]), (bs [108, 111, 111, 112]), (bs [118, 40, 88, 41]), (bs [100, 40, 88, 44, 32, 89, 41]), (bs [103, 40, 104, 40, 97, 41, 44, 32, 89, 41]), (bs [103, 40, 88, 44, 32, 89, 41]), (bs [107, 40, 49, 41]), (bs [121, 40, 88, 41]), (bs [88, 32, 61, 32, 102, 40, 88, 41]), (bs [99, 97, 116, 99, 104, 40, 102, 97, 105, 108, 44, 32, 95, 44, 32, 116, 114, 117, 101, 41]), (bs [40, 112, 40, 88, 41, 44, 32, 33, 32, 59, 32, 113, 40, 88, 41, 41]), (bs [92, 43, 32, 112, 40, 122, 41]), (bs [119, 114, 105, 116, 101, 40, 88, 41, 44, 32, 88, 32, 61, 32, 49]), (bs [88]), (bs [51]), (bs [116, 104, 114, 111, 119, 40, 102, 40, 88, 41, 41]), (bs [99, 97, 116, 99, 104, 40, 112, 40, 88, 41, 44, 32, 95, 44, 32, 116, 114, 117, 101, 41, 44, 32, 116, 104, 114, 111, 119, 40, 120, 41]), (bs [40, 112, 40, 88, 41, 32, 45, 62, 32, 113, 40, 89, 41, 32, 59, 32, 116, 114, 117, 101, 41]), (bs [99, 97, 108, 108, 40, 97, 112, 112, 40, 91, 97, 93, 41, 44, 32, 88, 44, 32, 89, 41]), (bs [112, 40, 88, 41, 44, 32, 97, 115, 115, 101, 114, 116, 122, 40, 40, 112, 50, 40, 89, 41, 32, 58, 45, 32, 112, 40, 89, 41, 41, 41, 44, 32, 112, 50, 40, 90, 41]), (bs [97, 116, 111, 109, 40, 88, 41]), (bs [114, 101, 116, 114, 97, 99, 116, 40, 40, 113, 40, 88, 41, 32, 58, 45, 32, 112, 40, 88, 41, 41, 41]), (bs [88, 32, 61, 61, 32, 88, 44, 32, 88, 32, 92, 61, 32, 97]), (bs [112, 40, 88, 41, 44, 32, 88, 32, 61, 61, 32, 98]), (bs [97, 112, 112, 40, 88, 44, 32, 91, 99, 124, 89, 93, 44, 32, 90, 41])])
 refine Wc.s2 [hB h3, hK [1]] [0] [] (o1 h3) ?_
 cases h; exact Wc.ret dn

def Z9q (k : Nat) (u53 : GXc) (u0l : List ByteArray) : Option (GXc × ByteArray) :=
 (Z66 k u53 (u0l.length : Int)).bind fun u91 =>
 (at' u0l u91.2).bind fun u0a =>
 some (u91.1, u0a)
theorem Zm8 {k : Nat} {u53 : GXc} {u0l : List ByteArray} {r : GXc × ByteArray} (h : Z9q k u53 u0l = some r) : FnO Tryz.prog 28 [.p (GXc.q u53) [], .v (.sl (List.map cS u0l)) []] (.v (.str r.2) []) [(0, .p (GXc.q r.1) [])] := by
 refine FnO.o2 Tryz.func28 rfl fun _ _ _ _ _ _ => ?_
 unfold Z9q at h
 refine Wc.s0 [0, 1] [1000000] ?_
 obtain ⟨u91, h5, h⟩ := oc h fun _ => Zcq
 obtain ⟨u0a, h6, h⟩ := oc h fun u0a h6 => (Z11 (c := cS) rfl Zau h6)
 refine Wc.s2 [{}, {}, {}, hL u0l, hC h5, hE h6] [4] [1000000] (o4 (Z2 cS u0l) h5 h6 (lenE h6 1)) ?_
 cases h; exact Wc.ret dn

def Zbm (k : Nat) (z3 : Gt) (va : Int) : Option Gt :=
 (Z95 k z3 va).bind fun uk =>
 (Z6e k uk).bind fun zu =>
 some zu
theorem Zty {k : Nat} {z3 : Gt} {va : Int} {r : Gt} (h : Zbm k z3 va = some r) : FnO Tryz.prog 31 [.v (.agg (Gt.q z3)) [], .v (aI va) []] (.v (.agg (Gt.q r)) [(3, .app 31)]) [] := by
 refine FnO.o2 Tryz.func31 rfl fun _ _ _ _ _ _ => ?_
 unfold Zbm at h
 refine Wc.s0 [1, 2, 4] [2, 4] ?_
 obtain ⟨uk, h25, h⟩ := oc h fun _ => Zi8
 refine Wc.s2 [{}, {}, hC h25, {}, hK [8]] [4, 5] [4, 5] (o1 h25) ?_
 obtain ⟨zu, h27, h⟩ := oc h fun _ => Zh6
 refine Wc.s2 [{}, hC h27, hK [10]] [4] [4] (o1 h27) ?_
 cases h; exact Wc.ret dn

def Zd7 (k : Nat) (u1k : Gt × (List ByteArray) × Bool) (u3w : GXc) : Option (GXc × Gt) :=
 if (!u1k.2.2) = true then
  none
 else
  some (u3w, u1k.1)
def Z8r (k : Nat) (u3x : GXc × ByteArray) (u4t : Gt × (List ByteArray) × Bool) (u1k : Gt × (List ByteArray) × Bool) (u1i : Bool) : Option (GXc × Gt) :=
 if u1i = true then
  (Z66 k u3x.1 3).bind fun u92 =>
  (Zbm k u4t.1 u92.2).bind fun vw =>
  (Zdb k (bs [44]) u1k.1 vw).bind fun zf =>
  some (u92.1, zf)
 else
  Zd7 k u1k u3x.1
def Zfr (k : Nat) (u7u : GXc) : Option (GXc × Gt) :=
 (Z9o k).bind fun u9t =>
 (Z9q k u7u u9t).bind fun u7v =>
 if Z36 u7v.2 (bs [32, 46]) then
  (Z71 k (u7v.2 ++ (bs [32, 46]))).bind fun u1k =>
  (Z85 k u7v.1 3).bind fun u7w =>
  if u7w.2 = true then
   (Z9o k).bind fun u9u =>
   (Z9q k u7w.1 u9u).bind fun u3x =>
   if Z36 u3x.2 (bs [32, 46]) then
    (Z71 k (u3x.2 ++ (bs [32, 46]))).bind fun u4t =>
    if u4t.2.2 = true then
     Z8r k u3x u4t u1k u1k.2.2
    else
     Z8r k u3x u4t u1k false
   else none
  else
   Zd7 k u1k u7w.1
 else none
theorem Zwl {k : Nat} {u7u : GXc} {r : GXc × Gt} (h : Zfr k u7u = some r) : FnO Tryz.prog 10 [.p (GXc.q u7u) []] (.v (.agg (Gt.q r.2)) []) [(0, .p (GXc.q r.1) [])] := by
 refine FnO.o2 Tryz.func10 rfl fun _ _ _ _ _ _ => ?_
 unfold Zfr at h
 refine Wc.s0 [0, 2] [2, 1000000] ?_
 obtain ⟨u9t, h28, h⟩ := oc h fun _ => Zm4
 obtain ⟨u7v, h29, h⟩ := oc h fun _ => Zm8
 obtain ⟨h30, h⟩ := Z4 h
 obtain ⟨u1k, h31, h⟩ := oc h fun _ => Zf4
 refine Wc.s2 [{}, hC h28, hC h29, {}, hC h31, hK [14], {}, hK [9], {}, {}, {}, hK [16]] [0, 2, 3, 5] [2, 3, 1000000] (o4 h28 h29 h30 h31) ?_
 refine Wc.seqJ (fun st => ∃ (u3w : GXc), st = ⟨[tP 2 2, tP 3 3, tB 5 u1k.2.2], [bX0 2, bC 3 (Gt.q u1k.1), bC 1000000 (GXc.q u3w)], []⟩ ∧ Zd7 k u1k u3w = some r) ?_ ?_
 ·obtain ⟨u7w, h36, h⟩ := oc h fun _ => Zm9
  refine Wc.s2 [{}, hC h36] [0, 2, 3, 5, 19] [2, 3, 1000000] (o1 h36) ?_
  refine Wc.ci h (fun _ h => ?_) (fun _ h => ?_)
  ·obtain ⟨u9u, h39, h⟩ := oc h fun _ => Zm4
   obtain ⟨u3x, h40, h⟩ := oc h fun _ => Zm8
   obtain ⟨h41, h⟩ := Z4 h
   obtain ⟨u4t, h42, h⟩ := oc h fun _ => Zf4
   refine Wc.s2 [{}, hC h39, hC h40, {}, hC h42, hK [25], {}, hK [20], {}, {}, {}, hK [27]] [0, 2, 3, 5, 6, 8] [2, 3, 6, 1000000] (o4 h39 h40 h41 h42) ?_
   refine Wc.seqJ (fun st => ∃ (u1i : Bool), st = ⟨[tP 0 1000000, tP 2 2, tP 3 3, tB 5 u1k.2.2, tP 6 6, tB 32 u1i], [bX0 2, bC 3 (Gt.q u1k.1), bC 6 (Gt.q u4t.1), bC 1000000 (GXc.q u3x.1)], []⟩ ∧ Z8r k u3x u4t u1k u1i = some r) ?_ ?_
   ·rcases oif h with ⟨h53, h⟩ | ⟨h53, h⟩
    ·refine Wc.k2 [{}, rT] [0, 2, 3, 5, 6, 32] [2, 3, 6, 1000000] (o1 (cb h53)) ?_
     exact ⟨_, stB h⟩
    refine Wc.k2 [{}, rF] [0, 2, 3, 5, 6, 32] [2, 3, 6, 1000000] (o1 (cb h53)) ?_
    exact ⟨_, stB h⟩
   rintro st ⟨u1i, rfl, h⟩
   refine Wc.ci h (fun _ h => ?_) (fun _ h => ?_)
   ·apply Wc.seq
    obtain ⟨u92, h47, h⟩ := oc h fun _ => Zcq
    obtain ⟨vw, h48, h⟩ := oc h fun _ => Zty
    obtain ⟨zf, h49, h⟩ := oc h fun _ => Zkl
    refine Wc.dk hmix [{}, {}, {}, hC h47, hC h48, hC h49, hK [38]] [] [2] [2, 1000000] [] (o3 h47 h48 h49) ?_
    refine Wc.fk [.un (.b 2 3)] [2] [2, 1000000] [] ?_
    cases h; exact Wc.ret dn
   refine Wc.ks [2, 3, 5] [2, 3, 1000000] ?_
   exact ⟨_, stB h⟩
  refine Wc.ks [2, 3, 5] [2, 3, 1000000] ?_
  exact ⟨_, stB h⟩
 rintro st ⟨u3w, rfl, h⟩
 apply Wc.seq
 refine Wc.s0 [2, 3, 40] [2, 3, 1000000] ?_
 refine Wc.ci h (fun _ h => ?_) (fun _ h => ?_)
 ·exact (Zk h).elim
 refine Wc.ks [2, 3] [2, 3, 1000000] ?_
 refine Wc.s0 [2] [2, 1000000] ?_
 cases h; exact Wc.ret dn

def Z79 (k : Nat) (vy : Int) : Option Int :=
 some vy
theorem Zg9 {k : Nat} {vy : Int} {r : Int} (h : Z79 k vy = some r) : FnO Tryz.prog 40 [.v (aI vy) []] (.v (aI r) []) [] := by
 refine FnO.o2 Tryz.func40 rfl fun _ _ _ _ _ _ => ?_
 unfold Z79 at h
 refine Wc.s0 [0] [] ?_
 refine Wc.s0 [2] [] ?_
 cases h; exact Wc.ret dn

def Z1o (k : Nat) (Z2b : Gt → Option Gt) (u9 : Gt) : Nat → Int → Gt → Option (Out Gt Gt)
 | 0, _, _ => none
 | m + 1, uo, ui =>
  if (decide (uo < (u9.ga.length : Int))) = true then
   (at' u9.ga uo).bind fun ub =>
   (Z2b ub).bind fun v5 =>
   if ui.ga.length + [v5].length ≤ 1073741824 then
    Z1o k Z2b u9 m (wr.i64 (uo + 1)) (Gt.mk ui.gi ui.gn ui.gj (ui.ga ++ [v5]))
   else none
  else
   some (.done ui)
def Z1p (k : Nat) (Z2b : Gt → Option Gt) (u9 : Gt) (vp : Gt) : Option Gt :=
 (Z1o k Z2b u9 k 0 vp).bind fun out2 => match out2 with
 | .ret r => some r
 | .done uz =>
  some uz
mutual
def Zb : Nat → Gt → Option Gt
 | 0, _ => none
 | k + 1, u9 =>
  if (u9.gi == 1) = true then
   (Z79 k u9.gj).bind fun uc =>
   Z1p k (Zb k) u9 (Gt.mk u9.gi u9.gn uc [])
  else
   Z1p k (Zb k) u9 (Gt.mk u9.gi u9.gn u9.gj [])
end
theorem Z7x : ∀ k : Nat, (∀ {u9 : Gt} {r : Gt}, Zb k u9 = some r → FnO Tryz.prog 39 [.v (.agg (Gt.q u9)) [], .v (.func 40 []) []] (.v (.agg (Gt.q r)) [(3, .app 31)]) []) := by
 intro k
 induction k with
 | zero =>
  ·intro u9 r h
   exact (Zk (by rw [Zb] at h; exact h)).elim
 | succ k ih =>
  have Z86 := @ih
  ·intro u9 r h
   rw [Zb] at h
   refine FnO.o2 Tryz.func39 rfl fun _ _ _ _ _ _ => ?_
   refine Wc.s0 [1, 2, 4] [2, 4] ?_
   refine Wc.s0 [1, 2, 4, 5] [2, 4, 5] ?_
   refine Wc.s0 [1, 2, 4, 5] [2, 4, 5] ?_
   refine Wc.seqJ (fun st => ∃ (vp : Gt), st = ⟨[tV 1 (.func 40 []), tP 2 2, tP 4 4, tP 5 5], [bC 2 (Gt.q u9), bX0 4, (5, .cells (Gt.q vp) [(3, .app 31)])], []⟩ ∧ Z1p k (Zb k) u9 vp = some r) ?_ ?_
   ·refine Wc.s0 [1, 2, 4, 5, 12] [2, 4, 5] ?_
    refine Wc.ci h (fun _ h => ?_) (fun _ h => ?_)
    ·obtain ⟨uc, h23, h⟩ := oc h fun _ => Zg9
     refine Wc.k2 [{}, {}, {}, hC h23] [1, 2, 4, 5] [2, 4, 5] (o1 h23) ?_
     exact ⟨_, stB h⟩
    refine Wc.ks [1, 2, 4, 5] [2, 4, 5] ?_
    exact ⟨_, stB h⟩
   rintro st ⟨vp, rfl, h⟩
   apply Wc.seq
   refine Wc.s2 [{}, {}, hL u9.ga] [1, 4, 5, 19, 20, 21] [4, 5] (o1 (Z2 Gt.c u9.ga)) ?_
   obtain ⟨out2, h13, h⟩ := Z2d h
   refine Wc.lastJ (fun st => ∃ (uz : Gt), out2 = .done uz ∧ st = ⟨[tP 4 4, tP 5 5], [bX0 4, (5, .cells (Gt.q uz) [(3, .app 31)])], []⟩) ?_ ?_
   ·apply Wc.block
    refine Wc.loop (fun m st => ∃ (uo : Int) (ui : Gt), st = ⟨[tV 1 (.func 40 []), tP 4 4, tP 5 5, tV 19 (.sl (List.map Gt.c u9.ga)), tI 20 (u9.ga.length : Int), tI 21 uo], [bX0 4, (5, .cells (Gt.q ui) [(3, .app 31)])], []⟩ ∧ Z1o k (Zb k) u9 m uo ui = some out2) ?_ k ⟨_, _, stB h13⟩
    rintro m st ⟨uo, ui, rfl, h13⟩
    rcases m with _ | m
    ·exact (Zk h13).elim
    refine Wc.s0 [1, 4, 5, 19, 20, 21, 22] [4, 5] ?_
    apply Wc.seq
    refine Wc.ci h13 (fun _ h13 => ?_) (fun _ h13 => ?_)
    ·refine Wc.ks [1, 4, 5, 19, 20, 21] [4, 5] ?_
     apply Wc.seq
     apply Wc.block
     obtain ⟨ub, h15, h13⟩ := oc h13 fun ub h15 => (Z11 (c := Gt.c) (Gt.c_eq ub) Gt.c_len h15)
     refine Wc.s2 [hE h15] [1, 4, 5, 7, 19, 20, 21] [4, 5, 7] (o2 h15 (lenE h15 4)) ?_
     obtain ⟨v5, h17, h13⟩ := oc h13 fun _ => Z86
     have h18 := (Z1l (c := Gt.c) (x := v5) (Gt.c_eq v5) (Z2s Gt.c))
     obtain ⟨h19, h13⟩ := Z4 h13
     have h20 := (Z30 Gt.c ui.ga [v5])
     refine Wc.dk hmix [{}, hM 1, {}, {}, hC h17, hB h18, { hB h20 with tk := [26] }, {}, hK [31]] [] [1, 4, 5, 19, 20, 21] [4, 5] [] (oC h17 (oC h18 (oA h20 Gt.c_leaf Gt.c_len h19 AllP.nil))) ?_
     refine Wc.k0 [1, 4, 5, 19, 20, 21] [4, 5] ?_
     exact ⟨_, Nat.lt_succ_self _, _, _, stB h13⟩
    refine Wc.ke [4, 5] [4, 5] ?_
    cases h13; exact ⟨_, rfl, by kernel_rfl⟩
   rintro st ⟨uz, rfl, rfl⟩
   refine Wc.s1 [hM 1, hK [34]] [4] [4] ?_
   cases h; exact Wc.ret dn
theorem Z9k {k : Nat} {u9 : Gt} {r : Gt} (h : Zb k u9 = some r) : FnO Tryz.prog 39 [.v (.agg (Gt.q u9)) [], .v (.func 40 []) []] (.v (.agg (Gt.q r)) [(3, .app 31)]) [] := (Z7x k) h

def Z2m (k : Nat) (z4 : Gt) : Option Gt :=
 (Zb k z4).bind fun u3j =>
 some u3j
theorem Z69 {k : Nat} {z4 : Gt} {r : Gt} (h : Z2m k z4 = some r) : FnO Tryz.prog 20 [.v (.agg (Gt.q z4)) []] (.v (.agg (Gt.q r)) [(3, .app 31)]) [] := by
 refine FnO.o2 Tryz.func20 rfl fun _ _ _ _ _ _ => ?_
 unfold Z2m at h
 refine Wc.s0 [1, 2] [1, 2] ?_
 obtain ⟨u3j, h3, h⟩ := oc h fun _ => Z9k
 refine Wc.s2 [{}, hC h3, hK [4]] [2] [2] (o1 h3) ?_
 cases h; exact Wc.ret dn

def Z6d (k : Nat) (u2p : Gc) : Option Gc :=
 (Z2m k u2p.gA).bind fun ut =>
 (Z2m k u2p.gD).bind fun u9 =>
 some (Gc.mk ut u9 u2p.gS)
theorem Zga {k : Nat} {u2p : Gc} {r : Gc} (h : Z6d k u2p = some r) : FnO Tryz.prog 51 [.v (.agg (Gc.q u2p)) []] (.v (.agg (Gc.q r)) [(3, .app 31), (7, .app 31)]) [] := by
 refine FnO.o2 Tryz.func51 rfl fun _ _ _ _ _ _ => ?_
 unfold Z6d at h
 refine Wc.s0 [1, 2] [1, 2] ?_
 apply Wc.seq
 obtain ⟨ut, h8, h⟩ := oc h fun _ => Z69
 obtain ⟨u9, h9, h⟩ := oc h fun _ => Z69
 refine Wc.dk hmix [{}, {}, hC h8, {}, {}, hC h9, {}, {}, hK [5, 8], hK [11]] [] [2] [2] [] (o2 h8 h9) ?_
 cases h; exact Wc.ret dn

def Z35 (k : Nat) (vy : Int) (u0j : Int) (vh : Int) : Option Bool :=
 if (decide (vy ≥ u0j)) = true then
  some (decide (vy ≤ vh))
 else
  some false
theorem Z4q {k : Nat} {vy : Int} {u0j : Int} {vh : Int} {r : Bool} (h : Z35 k vy u0j vh = some r) : FnO Tryz.prog 54 [.v (aI vy) [], .v (aI u0j) [], .v (aI vh) []] (.v (.bool r) []) [] := by
 refine FnO.o2 Tryz.func54 rfl fun _ _ _ _ _ _ => ?_
 unfold Z35 at h
 refine Wc.s0 [0, 1, 2] [] ?_
 rcases oif h with ⟨h4, h⟩ | ⟨h4, h⟩
 ·refine Wc.s2 [{}, {}, {}, rT] [6] [] (o1 (cb h4)) ?_
  cases h; exact Wc.ret dn
 refine Wc.s2 [{}, {}, {}, rF] [6] [] (o1 (cb h4)) ?_
 cases h; exact Wc.ret dn

def Z8l (k : Nat) (u06 : ByteArray) : Nat → Int → Option (Out Bool Unit)
 | 0, _ => none
 | m + 1, vh =>
  if (decide (vh < (u06.size : Int))) = true then
   if 0 ≤ vh ∧ (vh).toNat < u06.size then
    (Z35 k (wr.i64 (bt u06 vh)) 33 126).bind fun u4u =>
    if (!u4u) = true then
     some (.ret false)
    else
     if 0 ≤ vh ∧ (vh).toNat < u06.size then
      if ((bt u06 vh) == 39) = true then
       some (.ret false)
      else
       if 0 ≤ vh ∧ (vh).toNat < u06.size then
        if ((bt u06 vh) == 34) = true then
         some (.ret false)
        else
         Z8l k u06 m (wr.i64 (vh + 1))
       else none
     else none
   else none
  else
   some (.done ())
def Za0 (k : Nat) (u06 : ByteArray) : Option Bool :=
 (Z8l k u06 k 0).bind fun out1 => match out1 with
 | .ret r => some r
 | .done () =>
  (Z35 k (u06.size : Int) 1 20).bind fun u66 =>
  some u66
theorem Zke {k : Nat} {u06 : ByteArray} {r : Bool} (h : Za0 k u06 = some r) : FnO Tryz.prog 55 [.v (.str u06) []] (.v (.bool r) []) [] := by
 refine FnO.o2 Tryz.func55 rfl fun _ _ _ _ _ _ => ?_
 unfold Za0 at h
 refine Wc.s0 [0] [] ?_
 apply Wc.seq
 refine Wc.s0 [0, 3] [] ?_
 obtain ⟨out1, h9, h⟩ := Z2d h
 refine Wc.lastJ (fun st => out1 = .done () ∧ st = ⟨[tS 0 u06], [], []⟩) ?_ ?_
 ·apply Wc.block
  refine Wc.loop (fun m st => ∃ (vh : Int), st = ⟨[tS 0 u06, tI 3 vh], [], []⟩ ∧ Z8l k u06 m vh = some out1) ?_ k ⟨_, stB h9⟩
  rintro m st ⟨vh, rfl, h9⟩
  rcases m with _ | m
  ·exact (Zk h9).elim
  apply Wc.seq
  refine Wc.s0 [0, 3, 7] [] ?_
  refine Wc.ci h9 (fun _ h9 => ?_) (fun _ h9 => ?_)
  ·refine Wc.ks [0, 3] [] ?_
   apply Wc.seq
   apply Wc.block
   obtain ⟨h11, h9⟩ := Z4 h9
   obtain ⟨u4u, h12, h9⟩ := oc h9 fun _ => Z4q
   rcases oif h9 with ⟨h13, h9⟩ | ⟨h13, h9⟩
   ·refine Wc.s2 [{}, {}, {}, {}, hC h12, {}, rT] [0, 3, 27] [] (o3 h11 h12 (cb h13)) ?_
    refine Wc.cT rfl ?_
    refine Wc.s0 [2] [] ?_
    cases h9; cases h; exact Wc.ret dn
   obtain ⟨h14, h9⟩ := Z4 h9
   rcases oif h9 with ⟨h15, h9⟩ | ⟨h15, h9⟩
   ·refine Wc.s2 [{}, {}, {}, {}, hC h12, {}, rF, {}, {}, {}, {}, {}, rT] [0, 3, 27] [] (oC h11 (oC h12 (oC (cb h13) (oC h14 (oC (cb h15) AllP.nil))))) ?_
    refine Wc.cT rfl ?_
    refine Wc.s0 [2] [] ?_
    cases h9; cases h; exact Wc.ret dn
   obtain ⟨h16, h9⟩ := Z4 h9
   refine Wc.s2 [{}, {}, {}, {}, hC h12, {}, rF, {}, {}, {}, {}, {}, rF] [0, 3, 27] [] (oC h11 (oC h12 (oC (cb h13) (oC h14 (oC (cb h15) (oC h16 AllP.nil)))))) ?_
   refine Wc.ci h9 (fun _ h9 => ?_) (fun _ h9 => ?_)
   ·refine Wc.s0 [2] [] ?_
    cases h9; cases h; exact Wc.ret dn
   refine Wc.ks [0, 3] [] ?_
   refine Wc.k0 [0, 3] [] ?_
   exact ⟨_, Nat.lt_succ_self _, _, stB h9⟩
  refine Wc.ke [0] [] ?_
  cases h9; exact ⟨rfl, by kernel_rfl⟩
 rintro st ⟨rfl, rfl⟩
 obtain ⟨u66, h19, h⟩ := oc h fun _ => Z4q
 refine Wc.s2 [{}, {}, hC h19] [2] [] (o1 h19) ?_
 cases h; exact Wc.ret dn

def Z9x (k : Nat) (Zby : Gt → Int → Option Int) (uf : Gt) (vy : Int) : Nat → Int → Int → Option (Out Int Int)
 | 0, _, _ => none
 | m + 1, u0j, vh =>
  if (decide (vh < (uf.ga.length : Int))) = true then
   (at' uf.ga vh).bind fun vz =>
   (Zby vz (wr.i64 (vy + 1))).bind fun vg =>
   if (decide ((wr.i64 (u0j + vg)) > 400)) = true then
    some (.ret 401)
   else
    Z9x k Zby uf vy m (wr.i64 (u0j + vg)) (wr.i64 (vh + 1))
  else
   some (.done u0j)
def Z63 (k : Nat) (Zby : Gt → Int → Option Int) (uf : Gt) (vy : Int) : Option Int :=
 (Z9x k Zby uf vy k 1 0).bind fun out2 => match out2 with
 | .ret r => some r
 | .done u0q =>
  some u0q
mutual
def Z5a : Nat → Gt → Int → Option Int
 | 0, _, _ => none
 | k + 1, uf, vy =>
  if (decide (vy > 40)) = true then
   some 401
  else
   if (uf.gi == 1) = true then
    if (!(sEq uf.gn (bs []))) = true then
     some 401
    else
     (Z35 k uf.gj 0 99999).bind fun u3l =>
     if (!u3l) = true then
      some 401
     else
      if (decide ((uf.ga.length : Int) > 0)) = true then
       some 401
      else
       Z63 k (Z5a k) uf vy
   else
    if (uf.gi == 2) = true then
     (Za0 k uf.gn).bind fun u0m =>
     if (!u0m) = true then
      some 401
     else
      if (uf.gj != 0) = true then
       some 401
      else
       if (decide ((uf.ga.length : Int) > 0)) = true then
        some 401
       else
        Z63 k (Z5a k) uf vy
    else
     if (uf.gi == 3) = true then
      if (!(sEq uf.gn (bs []))) = true then
       some 401
      else
       (Z35 k uf.gj (-999999999) 999999999).bind fun u37 =>
       if (!u37) = true then
        some 401
       else
        if (decide ((uf.ga.length : Int) > 0)) = true then
         some 401
        else
         Z63 k (Z5a k) uf vy
     else
      if (uf.gi == 4) = true then
       (Za0 k uf.gn).bind fun u0c =>
       if (!u0c) = true then
        some 401
       else
        if (uf.gj != 0) = true then
         some 401
        else
         (Z35 k (uf.ga.length : Int) 1 5).bind fun u1a =>
         if (!u1a) = true then
          some 401
         else
          Z63 k (Z5a k) uf vy
      else
       some 401
end
theorem Zpu : ∀ k : Nat, (∀ {uf : Gt} {vy : Int} {r : Int}, Z5a k uf vy = some r → FnO Tryz.prog 35 [.v (.agg (Gt.q uf)) [], .v (aI vy) []] (.v (aI r) []) []) := by
 intro k
 induction k with
 | zero =>
  ·intro uf vy r h
   exact (Zk (by rw [Z5a] at h; exact h)).elim
 | succ k ih =>
  have Zqv := @ih
  ·intro uf vy r h
   rw [Z5a] at h
   refine FnO.o2 Tryz.func35 rfl fun _ _ _ _ _ _ => ?_
   refine Wc.s0 [1, 2] [2] ?_
   apply Wc.seq
   refine Wc.s0 [1, 2, 9] [2] ?_
   refine Wc.ci h (fun _ h => ?_) (fun _ h => ?_)
   ·refine Wc.s0 [4] [] ?_
    cases h; exact Wc.ret dn
   refine Wc.ks [1, 2] [2] ?_
   refine Wc.seqJ (fun st => st = ⟨[tI 1 vy, tP 2 2], [bC 2 (Gt.q uf)], []⟩ ∧ Z63 k (Z5a k) uf vy = some r) ?_ ?_
   ·refine Wc.s0 [1, 2, 11] [2] ?_
    apply Wc.block
    refine Wc.s0 [1, 2, 11, 12] [2] ?_
    refine Wc.ci h (fun _ h => ?_) (fun _ h => ?_)
    ·rcases oif h with ⟨h10, h⟩ | ⟨h10, h⟩
     ·refine Wc.s2 [{}, {}, {}, rT] [1, 2, 28] [2] (o1 (cb h10)) ?_
      refine Wc.cT rfl ?_
      refine Wc.s0 [4] [] ?_
      cases h; exact Wc.ret dn
     obtain ⟨u3l, h11, h⟩ := oc h fun _ => Z4q
     rcases oif h with ⟨h12, h⟩ | ⟨h12, h⟩
     ·refine Wc.s2 [{}, {}, {}, rF, {}, {}, hC h11, {}, {}, rT] [1, 2, 28] [2] (o3 (cb h10) h11 (cb h12)) ?_
      refine Wc.cT rfl ?_
      refine Wc.s0 [4] [] ?_
      cases h; exact Wc.ret dn
     refine Wc.s2 [{}, {}, {}, rF, {}, {}, hC h11, {}, {}, rF, {}, {}, hL uf.ga] [1, 2, 28] [2] (o4 (cb h10) h11 (cb h12) (Z2 Gt.c uf.ga)) ?_
     refine Wc.ci h (fun _ h => ?_) (fun _ h => ?_)
     ·refine Wc.s0 [4] [] ?_
      cases h; exact Wc.ret dn
     refine Wc.ks [1, 2] [2] ?_
     exact stB h
    refine Wc.s0 [1, 2, 11, 29] [2] ?_
    refine Wc.ci h (fun _ h => ?_) (fun _ h => ?_)
    ·obtain ⟨u0m, h16, h⟩ := oc h fun _ => Zke
     rcases oif h with ⟨h17, h⟩ | ⟨h17, h⟩
     ·refine Wc.s2 [{}, {}, hC h16, {}, rT] [1, 2, 45] [2] (o2 h16 (cb h17)) ?_
      refine Wc.cT rfl ?_
      refine Wc.s0 [4] [] ?_
      cases h; exact Wc.ret dn
     rcases oif h with ⟨h18, h⟩ | ⟨h18, h⟩
     ·refine Wc.s2 [{}, {}, hC h16, {}, rF, {}, {}, {}, {}, rT] [1, 2, 45] [2] (o3 h16 (cb h17) (cb h18)) ?_
      refine Wc.cT rfl ?_
      refine Wc.s0 [4] [] ?_
      cases h; exact Wc.ret dn
     refine Wc.s2 [{}, {}, hC h16, {}, rF, {}, {}, {}, {}, rF, {}, {}, hL uf.ga] [1, 2, 45] [2] (o4 h16 (cb h17) (cb h18) (Z2 Gt.c uf.ga)) ?_
     refine Wc.ci h (fun _ h => ?_) (fun _ h => ?_)
     ·refine Wc.s0 [4] [] ?_
      cases h; exact Wc.ret dn
     refine Wc.ks [1, 2] [2] ?_
     exact stB h
    refine Wc.s0 [1, 2, 11, 46] [2] ?_
    refine Wc.ci h (fun _ h => ?_) (fun _ h => ?_)
    ·rcases oif h with ⟨h22, h⟩ | ⟨h22, h⟩
     ·refine Wc.s2 [{}, {}, {}, rT] [1, 2, 62] [2] (o1 (cb h22)) ?_
      refine Wc.cT rfl ?_
      refine Wc.s0 [4] [] ?_
      cases h; exact Wc.ret dn
     obtain ⟨u37, h23, h⟩ := oc h fun _ => Z4q
     rcases oif h with ⟨h24, h⟩ | ⟨h24, h⟩
     ·refine Wc.s2 [{}, {}, {}, rF, {}, {}, hC h23, {}, {}, rT] [1, 2, 62] [2] (o3 (cb h22) h23 (cb h24)) ?_
      refine Wc.cT rfl ?_
      refine Wc.s0 [4] [] ?_
      cases h; exact Wc.ret dn
     refine Wc.s2 [{}, {}, {}, rF, {}, {}, hC h23, {}, {}, rF, {}, {}, hL uf.ga] [1, 2, 62] [2] (o4 (cb h22) h23 (cb h24) (Z2 Gt.c uf.ga)) ?_
     refine Wc.ci h (fun _ h => ?_) (fun _ h => ?_)
     ·refine Wc.s0 [4] [] ?_
      cases h; exact Wc.ret dn
     refine Wc.ks [1, 2] [2] ?_
     exact stB h
    refine Wc.s0 [1, 2, 63] [2] ?_
    refine Wc.ci h (fun _ h => ?_) (fun _ h => ?_)
    ·obtain ⟨u0c, h28, h⟩ := oc h fun _ => Zke
     rcases oif h with ⟨h29, h⟩ | ⟨h29, h⟩
     ·refine Wc.s2 [{}, {}, hC h28, {}, rT] [1, 2, 80] [2] (o2 h28 (cb h29)) ?_
      refine Wc.cT rfl ?_
      refine Wc.s0 [4] [] ?_
      cases h; exact Wc.ret dn
     rcases oif h with ⟨h30, h⟩ | ⟨h30, h⟩
     ·refine Wc.s2 [{}, {}, hC h28, {}, rF, {}, {}, {}, {}, rT] [1, 2, 80] [2] (o3 h28 (cb h29) (cb h30)) ?_
      refine Wc.cT rfl ?_
      refine Wc.s0 [4] [] ?_
      cases h; exact Wc.ret dn
     obtain ⟨u1a, h31, h⟩ := oc h fun _ => Z4q
     refine Wc.s2 [{}, {}, hC h28, {}, rF, {}, {}, {}, {}, rF, {}, {}, hL uf.ga, hC h31] [1, 2, 80] [2] (oC h28 (oC (cb h29) (oC (cb h30) (oC (Z2 Gt.c uf.ga) (oC h31 AllP.nil))))) ?_
     refine Wc.ci h (fun _ h => ?_) (fun _ h => ?_)
     ·refine Wc.s0 [4] [] ?_
      cases h; exact Wc.ret dn
     refine Wc.ks [1, 2] [2] ?_
     exact stB h
    refine Wc.s0 [4] [] ?_
    cases h; exact Wc.ret dn
   rintro st ⟨rfl, h⟩
   refine Wc.s0 [1, 2, 5] [2] ?_
   apply Wc.seq
   refine Wc.s2 [{}, {}, hL uf.ga] [1, 5, 82, 83, 84] [] (o1 (Z2 Gt.c uf.ga)) ?_
   obtain ⟨out2, h2, h⟩ := Z2d h
   refine Wc.lastJ (fun st => ∃ (u0q : Int), out2 = .done u0q ∧ st = ⟨[tI 5 u0q], [], []⟩) ?_ ?_
   ·apply Wc.block
    refine Wc.loop (fun m st => ∃ (u0j : Int) (vh : Int), st = ⟨[tI 1 vy, tI 5 u0j, tV 82 (.sl (List.map Gt.c uf.ga)), tI 83 (uf.ga.length : Int), tI 84 vh], [], []⟩ ∧ Z9x k (Z5a k) uf vy m u0j vh = some out2) ?_ k ⟨_, _, stB h2⟩
    rintro m st ⟨u0j, vh, rfl, h2⟩
    rcases m with _ | m
    ·exact (Zk h2).elim
    refine Wc.s0 [1, 5, 82, 83, 84, 85] [] ?_
    apply Wc.seq
    refine Wc.ci h2 (fun _ h2 => ?_) (fun _ h2 => ?_)
    ·refine Wc.ks [1, 5, 82, 83, 84] [] ?_
     apply Wc.seq
     apply Wc.block
     obtain ⟨vz, h4, h2⟩ := oc h2 fun vz h4 => (Z11 (c := Gt.c) (Gt.c_eq vz) Gt.c_len h4)
     refine Wc.s2 [hE h4] [1, 5, 7, 82, 83, 84] [7] (o2 h4 (lenE h4 4)) ?_
     obtain ⟨vg, h6, h2⟩ := oc h2 fun _ => Zqv
     refine Wc.s2 [{}, {}, {}, {}, hC h6] [1, 5, 82, 83, 84] [] (o1 h6) ?_
     refine Wc.s0 [1, 5, 82, 83, 84, 95] [] ?_
     refine Wc.ci h2 (fun _ h2 => ?_) (fun _ h2 => ?_)
     ·refine Wc.s0 [4] [] ?_
      cases h2; cases h; exact Wc.ret dn
     refine Wc.ks [1, 5, 82, 83, 84] [] ?_
     refine Wc.k0 [1, 5, 82, 83, 84] [] ?_
     exact ⟨_, Nat.lt_succ_self _, _, _, stB h2⟩
    refine Wc.ke [5] [] ?_
    cases h2; exact ⟨_, rfl, by kernel_rfl⟩
   rintro st ⟨u0q, rfl, rfl⟩
   refine Wc.s0 [4] [] ?_
   cases h; exact Wc.ret dn
theorem Zyj {k : Nat} {uf : Gt} {vy : Int} {r : Int} (h : Z5a k uf vy = some r) : FnO Tryz.prog 35 [.v (.agg (Gt.q uf)) [], .v (aI vy) []] (.v (aI r) []) [] := (Zpu k) h

def Z9d (k : Nat) (n : Int) : Option ByteArray :=
 if -9223372036854775808 ≤ n ∧ n ≤ 9223372036854775807 then some ⟨(Lib.itoa n).toArray⟩ else none
theorem Znh {k : Nat} {n : Int} {r : ByteArray} (h : Z9d k n = some r) : FnO Tryz.prog 114 [.v (aI n) []] (.v (.str r) []) [] := Z12d Tryz.strconv_Itoa Z11n h

def Z5r (k : Nat) (u7x : Int) : Option ByteArray :=
 (Z9d k u7x).bind fun u3y =>
 some u3y
theorem Zh4 {k : Nat} {u7x : Int} {r : ByteArray} (h : Z5r k u7x = some r) : FnO Tryz.prog 82 [.v (aI u7x) []] (.v (.str r) []) [] := by
 refine FnO.o2 Tryz.func82 rfl fun _ _ _ _ _ _ => ?_
 unfold Z5r at h
 refine Wc.s0 [0] [] ?_
 obtain ⟨u3y, h2, h⟩ := oc h fun _ => Znh
 refine Wc.s2 [{}, hC h2] [2] [] (o1 h2) ?_
 cases h; exact Wc.ret dn

def Z8o (k : Nat) (uf : Gt) : Option ByteArray :=
 if Z36 uf.gn (bs [47]) then
  (Z5r k (uf.ga.length : Int)).bind fun u3y =>
  if Z36 (uf.gn ++ (bs [47])) u3y then
   some ((uf.gn ++ (bs [47])) ++ u3y)
  else none
 else none
def Z5l (k : Nat) (uf : Gt) : Option ByteArray :=
 if (uf.gi != 2) = true then
  if (uf.gi != 4) = true then
   some (bs [])
  else
   Z8o k uf
 else
  Z8o k uf
theorem Z90 {k : Nat} {uf : Gt} {r : ByteArray} (h : Z5l k uf = some r) : FnO Tryz.prog 52 [.v (.agg (Gt.q uf)) []] (.v (.str r) []) [] := by
 refine FnO.o2 Tryz.func52 rfl fun _ _ _ _ _ _ => ?_
 unfold Z5l at h
 refine Wc.s0 [1] [1] ?_
 refine Wc.seqJ (fun st => st = ⟨[tP 1 1], [bC 1 (Gt.q uf)], []⟩ ∧ Z8o k uf = some r) ?_ ?_
 ·rcases oif h with ⟨h5, h⟩ | ⟨h5, h⟩
  ·refine Wc.s2 [{}, {}, {}, rT] [1, 10] [1] (o1 (cb h5)) ?_
   refine Wc.ci h (fun _ h => ?_) (fun _ h => ?_)
   ·refine Wc.s0 [2] [] ?_
    cases h; exact Wc.ret dn
   refine Wc.ks [1] [1] ?_
   exact stB h
  refine Wc.s2 [{}, {}, {}, rF] [1, 10] [1] (o1 (cb h5)) ?_
  refine Wc.cF rfl ?_
  refine Wc.ks [1] [1] ?_
  exact stB h
 rintro st ⟨rfl, h⟩
 apply Wc.seq
 obtain ⟨h1, h⟩ := Z4 h
 obtain ⟨u3y, h2, h⟩ := oc h fun _ => Zh4
 obtain ⟨h3, h⟩ := Z4 h
 refine Wc.dk hmix [{}, {}, {}, {}, {}, hL uf.ga, hC h2] [] [2] [] [] (o4 h1 (Z2 Gt.c uf.ga) h2 h3) ?_
 cases h; exact Wc.ret dn

def Z1k (k : Nat) (u0l : List ByteArray) (vj : ByteArray) : Nat → Int → Option (Out Int Unit)
 | 0, _ => none
 | m + 1, vg =>
  if (decide (vg < (u0l.length : Int))) = true then
   (at' u0l vg).bind fun z1 =>
   if (sEq vj z1) = true then
    some (.ret vg)
   else
    Z1k k u0l vj m (wr.i64 (vg + 1))
  else
   some (.done ())
def Z2h (k : Nat) (u0l : List ByteArray) (vj : ByteArray) : Option Int :=
 (Z1k k u0l vj k 0).bind fun out1 => match out1 with
 | .ret r => some r
 | .done () =>
  some (-1)
theorem Z8x {k : Nat} {u0l : List ByteArray} {vj : ByteArray} {r : Int} (h : Z2h k u0l vj = some r) : FnO Tryz.prog 115 [.v (.sl (List.map cS u0l)) [], .v (.str vj) []] (.v (aI r) []) [] := by
 refine FnO.o2 Tryz.func115 rfl fun _ _ _ _ _ _ => ?_
 unfold Z2h at h
 refine Wc.s0 [0, 1] [] ?_
 apply Wc.seq
 refine Wc.s2 [{}, hL u0l] [0, 1, 7, 8] [] (o1 (Z2 cS u0l)) ?_
 obtain ⟨out1, h4, h⟩ := Z2d h
 refine Wc.lastJ (fun st => out1 = .done () ∧ st = ⟨[], [], []⟩) ?_ ?_
 ·apply Wc.block
  refine Wc.loop (fun m st => ∃ (vg : Int), st = ⟨[tV 0 (.sl (List.map cS u0l)), tS 1 vj, tI 7 (u0l.length : Int), tI 8 vg], [], []⟩ ∧ Z1k k u0l vj m vg = some out1) ?_ k ⟨_, stB h4⟩
  rintro m st ⟨vg, rfl, h4⟩
  rcases m with _ | m
  ·exact (Zk h4).elim
  refine Wc.s0 [0, 1, 7, 8, 9] [] ?_
  apply Wc.seq
  refine Wc.ci h4 (fun _ h4 => ?_) (fun _ h4 => ?_)
  ·refine Wc.ks [0, 1, 7, 8] [] ?_
   apply Wc.seq
   apply Wc.block
   refine Wc.s0 [0, 1, 5, 7, 8] [] ?_
   obtain ⟨z1, h6, h4⟩ := oc h4 fun z1 h6 => (Z11 (c := cS) rfl Zau h6)
   refine Wc.s2 [{}, {}, {}, hE h6] [0, 1, 5, 7, 8, 16] [] (o2 h6 (lenE h6 1)) ?_
   refine Wc.ci h4 (fun _ h4 => ?_) (fun _ h4 => ?_)
   ·refine Wc.s0 [4] [] ?_
    cases h4; cases h; exact Wc.ret dn
   refine Wc.ks [0, 1, 7, 8] [] ?_
   refine Wc.k0 [0, 1, 7, 8] [] ?_
   exact ⟨_, Nat.lt_succ_self _, _, stB h4⟩
  refine Wc.ke [] [] ?_
  cases h4; exact ⟨rfl, by kernel_rfl⟩
 rintro st ⟨rfl, rfl⟩
 refine Wc.s0 [4] [] ?_
 cases h; exact Wc.ret dn

def Zy (k : Nat) (u7y : List ByteArray) (u03 : ByteArray) : Option Bool :=
 (Z2h k u7y u03).bind fun zi =>
 some (decide (zi ≥ 0))
theorem Z4p {k : Nat} {u7y : List ByteArray} {u03 : ByteArray} {r : Bool} (h : Zy k u7y u03 = some r) : FnO Tryz.prog 83 [.v (.sl (List.map cS u7y)) [], .v (.str u03) []] (.v (.bool r) []) [] := by
 refine FnO.o2 Tryz.func83 rfl fun _ _ _ _ _ _ => ?_
 unfold Zy at h
 refine Wc.s0 [0, 1] [] ?_
 obtain ⟨zi, h5, h⟩ := oc h fun _ => Z8x
 refine Wc.s2 [{}, {}, hC h5] [4] [] (o1 h5) ?_
 cases h; exact Wc.ret dn

def Z9n (k : Nat) (u06 : ByteArray) : Option Bool :=
 (Zy k [(bs [116, 114, 117, 101, 47, 48]), (bs [102, 97, 105, 108, 47, 48]), (bs [33, 47, 48]), (bs [44, 47, 50]), (bs [59, 47, 50]), (bs [45, 62, 47, 50]), (bs [92, 43, 47, 49]), (bs [99, 97, 108, 108, 47, 49]), (bs [99, 97, 108, 108, 47, 50]), (bs [99, 97, 108, 108, 47, 51]), (bs [99, 97, 116, 99, 104, 47, 51]), (bs [116, 104, 114, 111, 119, 47, 49]), (bs [61, 47, 50]), (bs [92, 61, 47, 50]), (bs [61, 61, 47, 50]), (bs [105, 115, 47, 50]), (bs [60, 47, 50]), (bs [61, 58, 61, 47, 50]), (bs [118, 97, 114, 47, 49]), (bs [97, 116, 111, 109, 47, 49]), (bs [119, 114, 105, 116, 101, 47, 49]), (bs [97, 115, 115, 101, 114, 116, 122, 47, 49]), (bs [114, 101, 116, 114, 97, 99, 116, 47, 49]), (bs [58, 45, 47, 50]), (bs [58, 45, 47, 49]), (bs [45, 45, 62, 47, 50])] u06).bind fun u2g =>
 some u2g
theorem Zm3 {k : Nat} {u06 : ByteArray} {r : Bool} (h : Z9n k u06 = some r) : FnO Tryz.prog 53 [.v (.str u06) []] (.v (.bool r) []) [] := by
 refine FnO.o2 Tryz.func53 rfl fun _ _ _ _ _ _ => ?_
 unfold Z9n at h
 refine Wc.s0 [0] [] ?_
 have h4 := (cR cS [(bs [116, 114, 117, 101, 47, 48]), (bs [102, 97, 105, 108, 47, 48]), (bs [33, 47, 48]), (bs [44, 47, 50]), (bs [59, 47, 50]), (bs [45, 62, 47, 50]), (bs [92, 43, 47, 49]), (bs [99, 97, 108, 108, 47, 49]), (bs [99, 97, 108, 108, 47, 50]), (bs [99, 97, 108, 108, 47, 51]), (bs [99, 97, 116, 99, 104, 47, 51]), (bs [116, 104, 114, 111, 119, 47, 49]), (bs [61, 47, 50]), (bs [92, 61, 47, 50]), (bs [61, 61, 47, 50]), (bs [105, 115, 47, 50]), (bs [60, 47, 50]), (bs [61, 58, 61, 47, 50]), (bs [118, 97, 114, 47, 49]), (bs [97, 116, 111, 109, 47, 49]), (bs [119, 114, 105, 116, 101, 47, 49]), (bs [97, 115, 115, 101, 114, 116, 122, 47, 49]), (bs [114, 101, 116, 114, 97, 99, 116, 47, 49]), (bs [58, 45, 47, 50]), (bs [58, 45, 47, 49]), (bs [45, 45, 62, 47, 50])])
 refine Wc.s2 [hB h4, hK [4]] [0, 3] [] (o1 h4) ?_
 obtain ⟨u2g, h5, h⟩ := oc h fun _ => Z4p
 refine Wc.s2 [hK [3], {}, hC h5] [2] [] (o1 h5) ?_
 cases h; exact Wc.ret dn

def Z3u (k : Nat) (z4 : Gt) : Option Bool :=
 (Z5a k z4 1).bind fun vh =>
 some (decide (vh ≤ 400))
theorem Z6a {k : Nat} {z4 : Gt} {r : Bool} (h : Z3u k z4 = some r) : FnO Tryz.prog 13 [.v (.agg (Gt.q z4)) []] (.v (.bool r) []) [] := by
 refine FnO.o2 Tryz.func13 rfl fun _ _ _ _ _ _ => ?_
 unfold Z3u at h
 refine Wc.s0 [1] [1] ?_
 obtain ⟨vh, h4, h⟩ := oc h fun _ => Zyj
 refine Wc.s2 [{}, hC h4] [2] [] (o1 h4) ?_
 cases h; exact Wc.ret dn

def Zbd (k : Nat) (vv : Gt) : Option Bool :=
 (Z5l k vv).bind fun vj =>
 if (!(sEq vj (bs []))) = true then
  (Z5l k vv).bind fun u0a =>
  (Z9n k u0a).bind fun u3l =>
  some (!u3l)
 else
  some false
theorem Zpc {k : Nat} {vv : Gt} {r : Bool} (h : Zbd k vv = some r) : FnO Tryz.prog 34 [.v (.agg (Gt.q vv)) []] (.v (.bool r) []) [] := by
 refine FnO.o2 Tryz.func34 rfl fun _ _ _ _ _ _ => ?_
 unfold Zbd at h
 refine Wc.s0 [1] [1] ?_
 obtain ⟨vj, h8, h⟩ := oc h fun _ => Z90
 rcases oif h with ⟨h9, h⟩ | ⟨h9, h⟩
 ·obtain ⟨u0a, h10, h⟩ := oc h fun _ => Z90
  obtain ⟨u3l, h11, h⟩ := oc h fun _ => Zm3
  refine Wc.s2 [{}, hC h8, {}, rT, {}, hC h10, hC h11] [2] [] (o4 h8 (cb h9) h10 h11) ?_
  cases h; exact Wc.ret dn
 refine Wc.s2 [{}, hC h8, {}, rF] [2] [] (o2 h8 (cb h9)) ?_
 cases h; exact Wc.ret dn

def Z8k (k : Nat) (u22 : List Gt) : Nat → Int → Gt → Option (Out Gt Gt)
 | 0, _, _ => none
 | m + 1, zi, v3 =>
  if (decide (zi < 5000)) = true then
   if (v3.gi == 1) = true then
    (Z35 k v3.gj 0 (wr.i64 ((u22.length : Int) - 1))).bind fun u0m =>
    if u0m = true then
     (at' u22 v3.gj).bind fun vp =>
     if (vp.gi != 0) = true then
      (at' u22 v3.gj).bind fun uh =>
      Z8k k u22 m (wr.i64 (zi + 1)) uh
     else
      some (.done v3)
    else
     some (.done v3)
   else
    some (.done v3)
  else
   some (.done v3)
def Z9w (k : Nat) (u22 : List Gt) (vv : Gt) : Option Gt :=
 (Z8k k u22 k 0 vv).bind fun out1 => match out1 with
 | .ret r => some r
 | .done ut =>
  some ut
theorem Zp9 {k : Nat} {u22 : List Gt} {vv : Gt} {r : Gt} (h : Z9w k u22 vv = some r) : FnO Tryz.prog 38 [.v (.sl (List.map Gt.c u22)) [], .v (.agg (Gt.q vv)) []] (.v (.agg (Gt.q r)) []) [] := by
 refine FnO.o2 Tryz.func38 rfl fun _ _ _ _ _ _ => ?_
 unfold Z9w at h
 refine Wc.s0 [0, 3, 4] [3, 4] ?_
 apply Wc.seq
 refine Wc.s0 [0, 3, 4, 5] [3, 4] ?_
 obtain ⟨out1, h1, h⟩ := Z2d h
 refine Wc.lastJ (fun st => ∃ (ut : Gt), out1 = .done ut ∧ st = ⟨[tP 3 3, tP 4 4], [bC 3 (Gt.q ut), bX0 4], []⟩) ?_ ?_
 ·apply Wc.block
  refine Wc.loop (fun m st => ∃ (zi : Int) (v3 : Gt), st = ⟨[tV 0 (.sl (List.map Gt.c u22)), tP 3 3, tP 4 4, tI 5 zi], [bC 3 (Gt.q v3), bX0 4], []⟩ ∧ Z8k k u22 m zi v3 = some out1) ?_ k ⟨_, _, stB h1⟩
  rintro m st ⟨zi, v3, rfl, h1⟩
  rcases m with _ | m
  ·exact (Zk h1).elim
  apply Wc.seq
  rcases oif h1 with ⟨h2, h1⟩ | ⟨h2, h1⟩
  ·rcases oif h1 with ⟨h3, h1⟩ | ⟨h3, h1⟩
   ·obtain ⟨u0m, h4, h1⟩ := oc h1 fun _ => Z4q
    rcases oif h1 with ⟨h5, h1⟩ | ⟨h5, h1⟩
    ·obtain ⟨vp, h6, h1⟩ := oc h1 fun vp h6 => (Z11 (c := Gt.c) (Gt.c_eq vp) Gt.c_len h6)
     refine Wc.s2 [{}, {}, rT, {}, {}, {}, {}, rT, {}, {}, {}, hL u22, {}, hC h4, {}, rT, {}, {}, {}, hE h6] [0, 3, 4, 5, 29] [3, 4] (oC (cb h2) (oC (cb h3) (oC (Z2 Gt.c u22) (oC h4 (oC (cb h5) (oC h6 (oC (lenE h6 1) AllP.nil))))))) ?_
     refine Wc.ci h1 (fun _ h1 => ?_) (fun _ h1 => ?_)
     ·refine Wc.ks [0, 3, 4, 5] [3, 4] ?_
      apply Wc.seq
      apply Wc.block
      obtain ⟨uh, h10, h1⟩ := oc h1 fun uh h10 => (Z11 (c := Gt.c) (Gt.c_eq uh) Gt.c_len h10)
      refine Wc.k2 [{}, {}, {}, hE h10] [0, 3, 4, 5] [3, 4] (o2 h10 (lenE h10 4)) ?_
      refine Wc.k0 [0, 3, 4, 5] [3, 4] ?_
      exact ⟨_, Nat.lt_succ_self _, _, _, stB h1⟩
     refine Wc.ke [3, 4] [3, 4] ?_
     cases h1; exact ⟨_, rfl, by kernel_rfl⟩
    refine Wc.s2 [{}, {}, rT, {}, {}, {}, {}, rT, {}, {}, {}, hL u22, {}, hC h4, {}, rF] [0, 3, 4, 5, 29] [3, 4] (oC (cb h2) (oC (cb h3) (oC (Z2 Gt.c u22) (oC h4 (oC (cb h5) AllP.nil))))) ?_
    refine Wc.cF rfl ?_
    refine Wc.ke [3, 4] [3, 4] ?_
    cases h1; exact ⟨_, rfl, by kernel_rfl⟩
   refine Wc.s2 [{}, {}, rT, {}, {}, {}, {}, rF] [0, 3, 4, 5, 29] [3, 4] (o2 (cb h2) (cb h3)) ?_
   refine Wc.cF rfl ?_
   refine Wc.ke [3, 4] [3, 4] ?_
   cases h1; exact ⟨_, rfl, by kernel_rfl⟩
  refine Wc.s2 [{}, {}, rF] [0, 3, 4, 5, 29] [3, 4] (o1 (cb h2)) ?_
  refine Wc.cF rfl ?_
  refine Wc.ke [3, 4] [3, 4] ?_
  cases h1; exact ⟨_, rfl, by kernel_rfl⟩
 rintro st ⟨ut, rfl, rfl⟩
 refine Wc.s0 [4] [4] ?_
 cases h; exact Wc.ret dn

def Zlm (k : Nat) (Zlg : (List Gt) → Gt → Int → Int → Option (Int × Gt × Bool)) (uk : Gt) (u23 : List Gt) (uc : Int) : Nat → Int → Gt → Int → Option (Out (Int × Gt × Bool) (Gt × Int))
 | 0, _, _, _ => none
 | m + 1, up, zh, vf =>
  if (decide (up < (uk.ga.length : Int))) = true then
   (at' uk.ga up).bind fun ve =>
   (Zlg u23 ve (wr.i64 (uc + 1)) vf).bind fun u4a =>
   if (!u4a.2.2) = true then
    some (.ret (u4a.1, Gt.mk 0 (bs []) 0 [], false))
   else
    if zh.ga.length + [u4a.2.1].length ≤ 1073741824 then
     Zlm k Zlg uk u23 uc m (wr.i64 (up + 1)) (Gt.mk zh.gi zh.gn zh.gj (zh.ga ++ [u4a.2.1])) u4a.1
    else none
  else
   some (.done (zh, vf))
mutual
def Z10c : Nat → (List Gt) → Gt → Int → Int → Option (Int × Gt × Bool)
 | 0, _, _, _, _ => none
 | k + 1, u23, v5, uc, va =>
  (Z9w k u23 v5).bind fun uk =>
  if (decide ((wr.i64 (va - 1)) < 0)) = true then
   some (wr.i64 (va - 1), Gt.mk 0 (bs []) 0 [], false)
  else
   if (decide (uc > 40)) = true then
    some (wr.i64 (va - 1), Gt.mk 0 (bs []) 0 [], false)
   else
    (Zlm k (Z10c k) uk u23 uc k 0 (Gt.mk uk.gi uk.gn uk.gj []) (wr.i64 (va - 1))).bind fun out1 => match out1 with
    | .ret r => some r
    | .done (un, uu) =>
     some (uu, un, true)
end

end Go.Proofs.YtjaaacbiaimdlaaGreatDoor

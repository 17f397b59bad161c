/- What the functions do, part 2. -/
import Derived.Test.YtjaaacbiaimdlaaGreatDoorFna
set_option linter.unusedVariables false
set_option linter.unusedSimpArgs false
namespace Go.Proofs.YtjaaacbiaimdlaaGreatDoor
open Go.RowKit Go.Bv
def Z8m (k : Nat) (Zhf : (List Gt) → Gt → Int → Int → Option (Int × Gt × Bool)) (zh : Gt) (u24 : List Gt) (u4 : Int) : Nat → Int → Gt → Int → Option (Out (Int × Gt × Bool) (Gt × Int))
 | 0, _, _, _ => none
 | m + 1, vf, un, uu =>
  if (decide (vf < (zh.ga.length : Int))) = true then
   (at' zh.ga vf).bind fun vw =>
   (Zhf u24 vw (wr.i64 (u4 + 1)) uu).bind fun u4b =>
   if (!u4b.2.2) = true then
    some (.ret (u4b.1, Gt.mk 0 (bs []) 0 [], false))
   else
    if un.ga.length + [u4b.2.1].length ≤ 1073741824 then
     Z8m k Zhf zh u24 u4 m (wr.i64 (vf + 1)) (Gt.mk un.gi un.gn un.gj (un.ga ++ [u4b.2.1])) u4b.1
    else none
  else
   some (.done (un, uu))
mutual
def Z6p : Nat → (List Gt) → Gt → Int → Int → Option (Int × Gt × Bool)
 | 0, _, _, _, _ => none
 | k + 1, u24, v9, u4, up =>
  (Z9w k u24 v9).bind fun zh =>
  if (decide ((wr.i64 (up - 1)) < 0)) = true then
   some (wr.i64 (up - 1), Gt.mk 0 (bs []) 0 [], false)
  else
   if (decide (u4 > 40)) = true then
    some (wr.i64 (up - 1), Gt.mk 0 (bs []) 0 [], false)
   else
    (Z8m k (Z6p k) zh u24 u4 k 0 (Gt.mk zh.gi zh.gn zh.gj []) (wr.i64 (up - 1))).bind fun out1 => match out1 with
    | .ret r => some r
    | .done (ve, z2) =>
     some (z2, ve, true)
end
theorem Znr : ∀ k : Nat, (∀ {u24 : List Gt} {v9 : Gt} {u4 : Int} {up : Int} {r : Int × Gt × Bool}, Z6p k u24 v9 u4 up = some r → FnO Tryz.prog 116 [.v (.sl (List.map Gt.c u24)) [], .v (.agg (Gt.q v9)) [], .v (aI u4) [], .p [aI up] []] (.v (.tup [.agg (Gt.qx r.2.1), .bool r.2.2]) (Gt.h3_31t r.2.1)) [(3, .p [aI r.1] [])]) := by
 intro k
 induction k with
 | zero =>
  ·intro u24 v9 u4 up r h
   exact (Zk (by rw [Z6p] at h; exact h)).elim
 | succ k ih =>
  have Zos := @ih
  ·intro u24 v9 u4 up r h
   rw [Z6p] at h
   refine FnO.o2 Tryz.func116 rfl fun _ _ _ _ _ _ => ?_
   refine Wc.s0 [0, 2, 3, 5, 8] [5, 8, 1000003] ?_
   obtain ⟨zh, h15, h⟩ := oc h fun _ => Zp9
   refine Wc.s2 [{}, {}, hC h15] [0, 2, 3, 5, 8] [5, 8, 1000003] (o1 h15) ?_
   refine Wc.s0 [0, 2, 3, 5, 8] [5, 8, 1000003] ?_
   apply Wc.seq
   rcases oif h with ⟨h17, h⟩ | ⟨h17, h⟩
   ·refine Wc.s2 [{}, {}, {}, {}, rT] [0, 2, 3, 5, 8, 30] [5, 8, 1000003] (o1 (cb h17)) ?_
    refine Wc.cT rfl ?_
    refine Wc.s1 [{}, hK [31]] [8, 9] [8, 1000003] ?_
    refine Wc.fk [.ow (.b 8 3) true] [8, 9] [8, 1000003] [] ?_
    cases h; exact Wc.ret dn
   refine Wc.s2 [{}, {}, {}, {}, rF] [0, 2, 3, 5, 8, 30] [5, 8, 1000003] (o1 (cb h17)) ?_
   refine Wc.ci h (fun _ h => ?_) (fun _ h => ?_)
   ·refine Wc.s1 [{}, hK [31]] [8, 9] [8, 1000003] ?_
    refine Wc.fk [.ow (.b 8 3) true] [8, 9] [8, 1000003] [] ?_
    cases h; exact Wc.ret dn
   refine Wc.ks [0, 2, 3, 5, 8] [5, 8, 1000003] ?_
   refine Wc.s0 [0, 2, 3, 5, 8, 10] [5, 8, 10, 1000003] ?_
   refine Wc.s0 [0, 2, 3, 5, 8, 10] [5, 8, 10, 1000003] ?_
   apply Wc.seq
   refine Wc.s2 [{}, {}, hL zh.ga] [0, 2, 3, 8, 10, 35, 36, 37] [8, 10, 1000003] (o1 (Z2 Gt.c zh.ga)) ?_
   obtain ⟨out1, h19, h⟩ := Z2d h
   refine Wc.lastJ (fun st => ∃ (ve : Gt) (z2 : Int), out1 = .done (ve, z2) ∧ st = ⟨[tP 8 8, tP 10 10], [(8, .cells [aI 0, .str (bs []), aI 0, .slx] [(3, .ex 31 true (List.map Gt.c []))]), (10, .cells (Gt.qx ve) (Gt.h3_31t ve)), bC 1000003 [aI z2]], []⟩) ?_ ?_
   ·apply Wc.block
    refine Wc.fk [.ow (.b 8 3) true, .ow (.b 10 3) true] [0, 2, 3, 8, 10, 35, 36, 37] [8, 10, 1000003] [] ?_
    refine Wc.loop (fun m st => ∃ (vf : Int) (un : Gt) (uu : Int), st = ⟨[tV 0 (.sl (List.map Gt.c u24)), tI 2 u4, tP 3 1000003, tP 8 8, tP 10 10, tV 35 (.sl (List.map Gt.c zh.ga)), tI 36 (zh.ga.length : Int), tI 37 vf], [(8, .cells [aI 0, .str (bs []), aI 0, .slx] [(3, .ex 31 true (List.map Gt.c []))]), (10, .cells (Gt.qx un) (Gt.h3_31t un)), bC 1000003 [aI uu]], []⟩ ∧ Z8m k (Z6p k) zh u24 u4 m vf un uu = some out1) ?_ k ⟨_, _, _, stB h19⟩
    rintro m st ⟨vf, un, uu, rfl, h19⟩
    rcases m with _ | m
    ·exact (Zk h19).elim
    refine Wc.s0 [0, 2, 3, 8, 10, 35, 36, 37, 38] [8, 10, 1000003] ?_
    apply Wc.seq
    refine Wc.ci h19 (fun _ h19 => ?_) (fun _ h19 => ?_)
    ·refine Wc.ks [0, 2, 3, 8, 10, 35, 36, 37] [8, 10, 1000003] ?_
     apply Wc.seq
     apply Wc.block
     obtain ⟨vw, h21, h19⟩ := oc h19 fun vw h21 => (Z11 (c := Gt.c) (Gt.c_eq vw) Gt.c_len h21)
     refine Wc.s2 [hE h21] [0, 2, 3, 8, 10, 12, 35, 36, 37] [8, 10, 12, 1000003] (o2 h21 (lenE h21 4)) ?_
     obtain ⟨u4b, h23, h19⟩ := oc h19 fun _ => Zos
     refine Wc.s2 [{}, {}, {}, {}, {}, hC h23, hK [47], hK [41], {}, {}, hK [48]] [0, 2, 3, 8, 10, 13, 14, 35, 36, 37] [8, 10, 13, 1000003] (o1 h23) ?_
     apply Wc.seq
     refine Wc.s0 [0, 2, 3, 8, 10, 13, 35, 36, 37, 51] [8, 10, 13, 1000003] ?_
     refine Wc.ci h19 (fun _ h19 => ?_) (fun _ h19 => ?_)
     ·refine Wc.s1 [{}, hK [52]] [8, 9] [8, 1000003] ?_
      refine Wc.fk [.ow (.b 8 3) true] [8, 9] [8, 1000003] [] ?_
      cases h19; cases h; exact Wc.ret dn
     refine Wc.ks [0, 2, 3, 8, 10, 13, 35, 36, 37] [8, 10, 13, 1000003] ?_
     have h26 := (Z1l (c := Gt.c) (x := u4b.2.1) (Gt.c_eq u4b.2.1) (Z2s Gt.c))
     obtain ⟨h27, h19⟩ := Z4 h19
     have h28 := (Z30 Gt.c un.ga [u4b.2.1])
     refine Wc.k2 [{}, hM 1, hM 1, { hB h26 with tk := [55], md := 2 }, { hB h28 with tk := [54, 56], md := 2 }, {}, hK [57]] [0, 2, 3, 8, 10, 35, 36, 37] [8, 10, 1000003] (oC h26 (oAn h28 Gt.c_len h27 AllP.nil)) ?_
     refine Wc.k0 [0, 2, 3, 8, 10, 35, 36, 37] [8, 10, 1000003] ?_
     exact ⟨_, Nat.lt_succ_self _, _, _, _, stB h19⟩
    refine Wc.ke [8, 10] [8, 10, 1000003] ?_
    cases h19; exact ⟨_, _, rfl, by kernel_rfl⟩
   rintro st ⟨ve, z2, rfl, rfl⟩
   refine Wc.s1 [hM 1, hK [60]] [8, 9] [8, 1000003] ?_
   cases h; exact Wc.ret dn
theorem Zwi {k : Nat} {u24 : List Gt} {v9 : Gt} {u4 : Int} {up : Int} {r : Int × Gt × Bool} (h : Z6p k u24 v9 u4 up = some r) : FnO Tryz.prog 116 [.v (.sl (List.map Gt.c u24)) [], .v (.agg (Gt.q v9)) [], .v (aI u4) [], .p [aI up] []] (.v (.tup [.agg (Gt.qx r.2.1), .bool r.2.2]) (Gt.h3_31t r.2.1)) [(3, .p [aI r.1] [])] := (Znr k) h

def Z64 (k : Nat) (u7z : List Gt) (v3 : Gt) : Option (Gt × Bool) :=
 (Z6p k u7z v3 1 400).bind fun u80 =>
 if (!u80.2.2) = true then
  some (Gt.mk 0 (bs []) 0 [], false)
 else
  (Z3u k u80.2.1).bind fun u0m =>
  if (!u0m) = true then
   some (Gt.mk 0 (bs []) 0 [], false)
  else
   some (u80.2.1, true)
theorem Zcl {k : Nat} {u7z : List Gt} {v3 : Gt} {r : Gt × Bool} (h : Z64 k u7z v3 = some r) : FnO Tryz.prog 84 [.v (.sl (List.map Gt.c u7z)) [], .v (.agg (Gt.q v3)) []] (.v (.tup [.agg (Gt.qx r.1), .bool r.2]) (Gt.h3_31t r.1)) [] := by
 refine FnO.o2 Tryz.func84 rfl fun _ _ _ _ _ _ => ?_
 unfold Z64 at h
 refine Wc.s0 [0, 3, 4] [3, 4] ?_
 refine Wc.s0 [0, 3, 4, 6] [3, 4, 6] ?_
 obtain ⟨u80, h7, h⟩ := oc h fun _ => Zwi
 refine Wc.s2 [{}, {}, hC h7, hK [12], hK [9], {}, {}, hK [13]] [4, 7, 8] [4, 7] (o1 h7) ?_
 apply Wc.seq
 rcases oif h with ⟨h9, h⟩ | ⟨h9, h⟩
 ·refine Wc.s2 [{}, {}, rT] [4, 7, 21] [4, 7] (o1 (cb h9)) ?_
  refine Wc.cT rfl ?_
  refine Wc.s1 [{}, hK [22]] [4, 5] [4] ?_
  refine Wc.fk [.ow (.b 4 3) true] [4, 5] [4] [] ?_
  cases h; exact Wc.ret dn
 obtain ⟨u0m, h10, h⟩ := oc h fun _ => Z6a
 refine Wc.s2 [{}, {}, rF, {}, hC h10] [4, 7, 21] [4, 7] (o2 (cb h9) h10) ?_
 refine Wc.ci h (fun _ h => ?_) (fun _ h => ?_)
 ·refine Wc.s1 [{}, hK [22]] [4, 5] [4] ?_
  refine Wc.fk [.ow (.b 4 3) true] [4, 5] [4] [] ?_
  cases h; exact Wc.ret dn
 refine Wc.ks [4, 7] [4, 7] ?_
 refine Wc.s1 [hM 1, hK [23]] [4, 5] [4] ?_
 cases h; exact Wc.ret dn

def Z1g (k : Nat) (zg : Gs) (vh : Int) : Option Gs :=
 some (Gs.mk zg.gDb zg.gU zg.gk zg.gl zg.gw zg.gh zg.gc (Gw.mk zg.gf.gp vh zg.gf.gx zg.gf.gf zg.gf.gDb zg.gf.gl) true)
theorem Z2a {k : Nat} {zg : Gs} {vh : Int} {r : Gs} (h : Z1g k zg vh = some r) : FnO Tryz.prog 14 [.p (Gs.k zg) (Gs.h zg), .v (aI vh) []] (.v (.tup []) []) [(0, .p (Gs.k r) (Gs.h r))] := by
 refine FnO.o2 Tryz.func14 rfl fun _ _ _ _ _ _ => ?_
 unfold Z1g at h
 refine Wc.s0 [0] [1000000] ?_
 refine Wc.k0 [] [1000000] ?_
 cases h; exact ⟨(by first | exact .inl rfl | exact .inr rfl), by kernel_rfl, by kernel_rfl⟩

def Z1h (k : Nat) (uv : Gs) (z4 : Gt) : Option (Gs × Gt × Bool) :=
 (Z64 k uv.gU.ge z4).bind fun u4c =>
 if (!u4c.2) = true then
  (Z1g k uv 1).bind fun u2 =>
  some (u2, u4c.1, u4c.2)
 else
  some (uv, u4c.1, u4c.2)
theorem Z4v {k : Nat} {uv : Gs} {z4 : Gt} {r : Gs × Gt × Bool} (h : Z1h k uv z4 = some r) : FnO Tryz.prog 56 [.p (Gs.k uv) (Gs.h uv), .v (.agg (Gt.q z4)) []] (.v (.tup [.agg (Gt.q r.2.1), .bool r.2.2]) []) [(0, .p (Gs.k r.1) (Gs.h r.1))] := by
 refine FnO.o2 Tryz.func56 rfl fun _ _ _ _ _ _ => ?_
 unfold Z1h at h
 refine Wc.s0 [0, 3, 4] [3, 4, 1000000] ?_
 apply Wc.seq
 obtain ⟨u4c, h1, h⟩ := oc h fun _ => Zcl
 refine Wc.every hmix [{}, {}, {}, {}, {}, {}, hC h1, hK [15], hK [8], {}, {}, hK [16]] [] [0, 4, 6, 7] [4, 6, 1000000] [] ⟨[tP 0 1000000, tP 4 4, tP 6 6, tB 7 u4c.2], [bX0 4, (6, .cells (Gt.qx u4c.1) (Gt.h3_31t u4c.1)), (1000000, .cells (Gs.k uv) (Gs.h uv))], []⟩ _ 192 (by kernel_rfl) (.cons .nil (.cons .nil (.cons .nil (.cons .nil (.cons .nil (.cons .nil (.cons (oC h1 AllP.nil) (.cons .nil (.cons .nil (.cons .nil (.cons .nil (.cons .nil (.cons .nil .nil))))))))))))) ?_
 apply Wc.seq
 refine Wc.s0 [0, 4, 6, 7, 19] [4, 6, 1000000] ?_
 refine Wc.ci h (fun _ h => ?_) (fun _ h => ?_)
 ·obtain ⟨u2, h4, h⟩ := oc h fun _ => Z2a
  refine Wc.k2 [{}, hC h4] [4, 6, 7] [4, 6, 1000000] (o1 h4) ?_
  refine Wc.s1 [hM 1, {}, hK [22]] [4, 5] [4, 1000000] ?_
  refine Wc.fk [.sh (.b 4 3)] [4, 5] [4, 1000000] [] ?_
  cases h; exact Wc.ret dn
 refine Wc.ks [4, 6, 7] [4, 6, 1000000] ?_
 refine Wc.s1 [hM 1, {}, hK [22]] [4, 5] [4, 1000000] ?_
 refine Wc.fk [.sh (.b 4 3)] [4, 5] [4, 1000000] [] ?_
 cases h; exact Wc.ret dn

def Z26 (k : Nat) (u16 : List Int) (z0 : Int) : Nat → Int → Option (Out Int Unit)
 | 0, _ => none
 | m + 1, vd =>
  if (decide (vd < (u16.length : Int))) = true then
   (at' u16 vd).bind fun ud =>
   if (z0 == ud) = true then
    some (.ret vd)
   else
    Z26 k u16 z0 m (wr.i64 (vd + 1))
  else
   some (.done ())
def Z24 (k : Nat) (u16 : List Int) (z0 : Int) : Option Int :=
 (Z26 k u16 z0 k 0).bind fun out1 => match out1 with
 | .ret r => some r
 | .done () =>
  some (-1)
theorem Z76 {k : Nat} {u16 : List Int} {z0 : Int} {r : Int} (h : Z24 k u16 z0 = some r) : FnO Tryz.prog 119 [.v (.sl (List.map cI.i64 u16)) [], .v (aI z0) []] (.v (aI r) []) [] := by
 refine FnO.o2 Tryz.func119 rfl fun _ _ _ _ _ _ => ?_
 unfold Z24 at h
 refine Wc.s0 [0, 1] [] ?_
 apply Wc.seq
 refine Wc.s2 [{}, hL u16] [0, 1, 7, 8] [] (o1 (Z2 cI.i64 u16)) ?_
 obtain ⟨out1, h11, h⟩ := Z2d h
 refine Wc.lastJ (fun st => out1 = .done () ∧ st = ⟨[], [], []⟩) ?_ ?_
 ·apply Wc.block
  refine Wc.loop (fun m st => ∃ (vd : Int), st = ⟨[tV 0 (.sl (List.map cI.i64 u16)), tI 1 z0, tI 7 (u16.length : Int), tI 8 vd], [], []⟩ ∧ Z26 k u16 z0 m vd = some out1) ?_ k ⟨_, stB h11⟩
  rintro m st ⟨vd, rfl, h11⟩
  rcases m with _ | m
  ·exact (Zk h11).elim
  refine Wc.s0 [0, 1, 7, 8, 9] [] ?_
  apply Wc.seq
  refine Wc.ci h11 (fun _ h11 => ?_) (fun _ h11 => ?_)
  ·refine Wc.ks [0, 1, 7, 8] [] ?_
   apply Wc.seq
   apply Wc.block
   refine Wc.s0 [0, 1, 5, 7, 8] [] ?_
   obtain ⟨ud, h13, h11⟩ := oc h11 fun ud h13 => (Z11 (c := cI.i64) rfl cI.i64_len h13)
   refine Wc.s2 [{}, {}, {}, hE h13] [0, 1, 5, 7, 8, 16] [] (o2 h13 (lenE h13 1)) ?_
   refine Wc.ci h11 (fun _ h11 => ?_) (fun _ h11 => ?_)
   ·refine Wc.s0 [4] [] ?_
    cases h11; cases h; exact Wc.ret dn
   refine Wc.ks [0, 1, 7, 8] [] ?_
   refine Wc.k0 [0, 1, 7, 8] [] ?_
   exact ⟨_, Nat.lt_succ_self _, _, stB h11⟩
  refine Wc.ke [] [] ?_
  cases h11; exact ⟨rfl, by kernel_rfl⟩
 rintro st ⟨rfl, rfl⟩
 refine Wc.s0 [4] [] ?_
 cases h; exact Wc.ret dn

def Z2u (k : Nat) (u16 : List Int) (z0 : Int) : Option Bool :=
 (Z24 k u16 z0).bind fun vd =>
 some (decide (vd ≥ 0))
theorem Zai {k : Nat} {u16 : List Int} {z0 : Int} {r : Bool} (h : Z2u k u16 z0 = some r) : FnO Tryz.prog 143 [.v (.sl (List.map cI.i64 u16)) [], .v (aI z0) []] (.v (.bool r) []) [] := by
 refine FnO.o2 Tryz.func143 rfl fun _ _ _ _ _ _ => ?_
 unfold Z2u at h
 refine Wc.s0 [0, 1] [] ?_
 obtain ⟨vd, h12, h⟩ := oc h fun _ => Z76
 refine Wc.s2 [{}, {}, hC h12] [4] [] (o1 h12) ?_
 cases h; exact Wc.ret dn

def Z7a (k : Nat) (Z59 : (List Int) → Gt → Option (List Int)) (v3 : Gt) : Nat → (List Int) → Int → Option (Out (List Int) (List Int))
 | 0, _, _ => none
 | m + 1, u5h, ud =>
  if (decide (ud < (v3.ga.length : Int))) = true then
   (at' v3.ga ud).bind fun ui =>
   (Z59 u5h ui).bind fun u9v =>
   Z7a k Z59 v3 m u9v (wr.i64 (ud + 1))
  else
   some (.done u5h)
def Z7c (k : Nat) (Z59 : (List Int) → Gt → Option (List Int)) (v3 : Gt) (u67 : List Int) : Option (List Int) :=
 (Z7a k Z59 v3 k u67 0).bind fun out2 => match out2 with
 | .ret r => some r
 | .done u68 =>
  some u68
def Z7b (k : Nat) (Z59 : (List Int) → Gt → Option (List Int)) (u17 : List Int) (v3 : Gt) (u0d : Bool) : Option (List Int) :=
 if u0d = true then
  if u17.length + [v3.gj].length ≤ 1073741824 then
   Z7c k Z59 v3 (u17 ++ [v3.gj])
  else none
 else
  Z7c k Z59 v3 u17
mutual
def Z3m : Nat → (List Int) → Gt → Option (List Int)
 | 0, _, _ => none
 | k + 1, u17, v3 =>
  if (v3.gi == 1) = true then
   (Z2u k u17 v3.gj).bind fun zm =>
   Z7b k (Z3m k) u17 v3 (!zm)
  else
   Z7b k (Z3m k) u17 v3 false
end
theorem Zl6 : ∀ k : Nat, (∀ {u17 : List Int} {v3 : Gt} {r : (List Int)}, Z3m k u17 v3 = some r → FnO Tryz.prog 120 [.v (.slx) [(0, .ex 3 false (List.map cI.i64 u17))], .v (.agg (Gt.q v3)) []] (.v (.slx) [(0, .ex 3 false (List.map cI.i64 r))]) []) := by
 intro k
 induction k with
 | zero =>
  ·intro u17 v3 r h
   exact (Zk (by rw [Z3m] at h; exact h)).elim
 | succ k ih =>
  have Zn4 := @ih
  ·intro u17 v3 r h
   rw [Z3m] at h
   refine FnO.o2 Tryz.func120 rfl fun _ _ _ _ _ _ => ?_
   refine Wc.s0 [0, 3] [3] ?_
   refine Wc.seqJ (fun st => ∃ (u67 : List Int), st = ⟨[(0, (.v (.slx), [(0, .ex 3 false (List.map cI.i64 u67))])), tP 3 3], [bC 3 (Gt.q v3)], []⟩ ∧ Z7c k (Z3m k) v3 u67 = some r) ?_ ?_
   ·refine Wc.seqJ (fun st => ∃ (u0d : Bool), st = ⟨[(0, (.v (.slx), [(0, .ex 3 false (List.map cI.i64 u17))])), tP 3 3, tB 16 u0d], [bC 3 (Gt.q v3)], []⟩ ∧ Z7b k (Z3m k) u17 v3 u0d = some r) ?_ ?_
    ·rcases oif h with ⟨h21, h⟩ | ⟨h21, h⟩
     ·obtain ⟨zm, h22, h⟩ := oc h fun _ => Zai
      refine Wc.k2 [{}, {}, {}, rT, {}, {}, {}, hC h22] [0, 3, 16] [3] (o2 (cb h21) h22) ?_
      exact ⟨_, stB h⟩
     refine Wc.k2 [{}, {}, {}, rF] [0, 3, 16] [3] (o1 (cb h21)) ?_
     exact ⟨_, stB h⟩
    rintro st ⟨u0d, rfl, h⟩
    refine Wc.ci h (fun _ h => ?_) (fun _ h => ?_)
    ·have h18 := (cR cI.i64 [v3.gj])
     obtain ⟨h19, h⟩ := Z4 h
     have h20 := (Z30 cI.i64 u17 [v3.gj])
     refine Wc.k2 [hK [0], {}, {}, hB h18, { hB h20 with tk := [17], md := 1 }, hK [21]] [0, 3] [3] (oC h18 (oA h20 cI.i64_leaf cI.i64_len h19 AllP.nil)) ?_
     exact ⟨_, stB h⟩
    refine Wc.ks [0, 3] [3] ?_
    exact ⟨_, stB h⟩
   rintro st ⟨u67, rfl, h⟩
   apply Wc.seq
   refine Wc.s2 [{}, {}, hL v3.ga] [0, 23, 24, 25] [] (o1 (Z2 Gt.c v3.ga)) ?_
   obtain ⟨out2, h11, h⟩ := Z2d h
   refine Wc.lastJ (fun st => ∃ (u68 : List Int), out2 = .done u68 ∧ st = ⟨[(0, (.v (.slx), [(0, .ex 3 false (List.map cI.i64 u68))]))], [], []⟩) ?_ ?_
   ·apply Wc.block
    refine Wc.loop (fun m st => ∃ (u5h : List Int) (ud : Int), st = ⟨[(0, (.v (.slx), [(0, .ex 3 false (List.map cI.i64 u5h))])), tV 23 (.sl (List.map Gt.c v3.ga)), tI 24 (v3.ga.length : Int), tI 25 ud], [], []⟩ ∧ Z7a k (Z3m k) v3 m u5h ud = some out2) ?_ k ⟨_, _, stB h11⟩
    rintro m st ⟨u5h, ud, rfl, h11⟩
    rcases m with _ | m
    ·exact (Zk h11).elim
    refine Wc.s0 [0, 23, 24, 25, 26] [] ?_
    apply Wc.seq
    refine Wc.ci h11 (fun _ h11 => ?_) (fun _ h11 => ?_)
    ·refine Wc.ks [0, 23, 24, 25] [] ?_
     apply Wc.seq
     apply Wc.block
     obtain ⟨ui, h13, h11⟩ := oc h11 fun ui h13 => (Z11 (c := Gt.c) (Gt.c_eq ui) Gt.c_len h13)
     refine Wc.s2 [hE h13] [0, 6, 23, 24, 25] [6] (o2 h13 (lenE h13 4)) ?_
     obtain ⟨u9v, h15, h11⟩ := oc h11 fun _ => Zn4
     refine Wc.k2 [hK [0], {}, { hC h15 with tk := [29] }, hK [31]] [0, 23, 24, 25] [] (o1 h15) ?_
     refine Wc.k0 [0, 23, 24, 25] [] ?_
     exact ⟨_, Nat.lt_succ_self _, _, _, stB h11⟩
    refine Wc.ke [0] [] ?_
    cases h11; exact ⟨_, rfl, by kernel_rfl⟩
   rintro st ⟨u68, rfl, rfl⟩
   refine Wc.s1 [hK [0], hK [33]] [4] [] ?_
   cases h; exact Wc.ret dn
theorem Ztq {k : Nat} {u17 : List Int} {v3 : Gt} {r : (List Int)} (h : Z3m k u17 v3 = some r) : FnO Tryz.prog 120 [.v (.slx) [(0, .ex 3 false (List.map cI.i64 u17))], .v (.agg (Gt.q v3)) []] (.v (.slx) [(0, .ex 3 false (List.map cI.i64 r))]) [] := (Zl6 k) h

def Za4 (k : Nat) (ut : Gt) : Option (List Int) :=
 (Z3m k [] ut).bind fun u9w =>
 some u9w
theorem Zkg {k : Nat} {ut : Gt} {r : (List Int)} (h : Za4 k ut = some r) : FnO Tryz.prog 90 [.v (.agg (Gt.q ut)) []] (.v (.sl (List.map cI.i64 r)) []) [] := by
 refine FnO.o2 Tryz.func90 rfl fun _ _ _ _ _ _ => ?_
 unfold Za4 at h
 refine Wc.s0 [1] [1] ?_
 obtain ⟨u9w, h13, h⟩ := oc h fun _ => Ztq
 refine Wc.s2 [{}, { hC h13 with tk := [1000006] }, hK [4]] [2] [] (o1 h13) ?_
 refine Wc.fk [.sh (.t 2 0)] [2] [] [] ?_
 cases h; exact Wc.ret dn

def Zan (k : Nat) (v0 : Int) (uc : Int) : Option Int :=
 some (wr.i64 (v0 + uc))
theorem Zpf {k : Nat} {v0 : Int} {uc : Int} {r : Int} (h : Zan k v0 uc = some r) : FnO Tryz.prog 142 [.v (aI v0) [], .v (.vptr [aI uc]) []] (.v (aI r) []) [] := by
 refine FnO.o2 Tryz.func142 rfl fun _ _ _ _ _ _ => ?_
 unfold Zan at h
 refine Wc.s0 [0, 1] [] ?_
 refine Wc.s2 [] [3] [] (o1 (Zhi 1 [aI uc])) ?_
 cases h; exact Wc.ret dn

def Z1r (k : Nat) (Z2g : Gt → Int → Option Gt) (un : Gt) (uu : Int) : Nat → Int → Gt → Option (Out Gt Gt)
 | 0, _, _ => none
 | m + 1, z2, vw =>
  if (decide (z2 < (un.ga.length : Int))) = true then
   (at' un.ga z2).bind fun u2q =>
   (Z2g u2q uu).bind fun zw =>
   if vw.ga.length + [zw].length ≤ 1073741824 then
    Z1r k Z2g un uu m (wr.i64 (z2 + 1)) (Gt.mk vw.gi vw.gn vw.gj (vw.ga ++ [zw]))
   else none
  else
   some (.done vw)
def Z1s (k : Nat) (Z2g : Gt → Int → Option Gt) (un : Gt) (uu : Int) (ve : Gt) : Option Gt :=
 (Z1r k Z2g un uu k 0 ve).bind fun out2 => match out2 with
 | .ret r => some r
 | .done zf =>
  some zf
mutual
def Zc : Nat → Gt → Int → Option Gt
 | 0, _, _ => none
 | k + 1, un, uu =>
  if (un.gi == 1) = true then
   (Zan k un.gj uu).bind fun za =>
   Z1s k (Zc k) un uu (Gt.mk un.gi un.gn za [])
  else
   Z1s k (Zc k) un uu (Gt.mk un.gi un.gn un.gj [])
end
theorem Z8b : ∀ k : Nat, (∀ {un : Gt} {uu : Int} {r : Gt}, Zc k un uu = some r → FnO Tryz.prog 39 [.v (.agg (Gt.q un)) [], .v (.func 142 [.vptr [aI uu]]) []] (.v (.agg (Gt.q r)) [(3, .app 31)]) []) := by
 intro k
 induction k with
 | zero =>
  ·intro un uu r h
   exact (Zk (by rw [Zc] at h; exact h)).elim
 | succ k ih =>
  have Z8u := @ih
  ·intro un uu r h
   rw [Zc] at h
   refine FnO.o2 Tryz.func39 rfl fun _ _ _ _ _ _ => ?_
   refine Wc.s0 [1, 2, 4] [2, 4] ?_
   refine Wc.s0 [1, 2, 4, 5] [2, 4, 5] ?_
   refine Wc.s0 [1, 2, 4, 5] [2, 4, 5] ?_
   refine Wc.seqJ (fun st => ∃ (ve : Gt), st = ⟨[tV 1 (.func 142 [.vptr [aI uu]]), tP 2 2, tP 4 4, tP 5 5], [bC 2 (Gt.q un), bX0 4, (5, .cells (Gt.q ve) [(3, .app 31)])], []⟩ ∧ Z1s k (Zc k) un uu ve = some r) ?_ ?_
   ·refine Wc.s0 [1, 2, 4, 5, 12] [2, 4, 5] ?_
    refine Wc.ci h (fun _ h => ?_) (fun _ h => ?_)
    ·obtain ⟨za, h48, h⟩ := oc h fun _ => Zpf
     refine Wc.k2 [{}, {}, {}, hC h48] [1, 2, 4, 5] [2, 4, 5] (o1 h48) ?_
     exact ⟨_, stB h⟩
    refine Wc.ks [1, 2, 4, 5] [2, 4, 5] ?_
    exact ⟨_, stB h⟩
   rintro st ⟨ve, rfl, h⟩
   apply Wc.seq
   refine Wc.s2 [{}, {}, hL un.ga] [1, 4, 5, 19, 20, 21] [4, 5] (o1 (Z2 Gt.c un.ga)) ?_
   obtain ⟨out2, h38, h⟩ := Z2d h
   refine Wc.lastJ (fun st => ∃ (zf : Gt), out2 = .done zf ∧ st = ⟨[tP 4 4, tP 5 5], [bX0 4, (5, .cells (Gt.q zf) [(3, .app 31)])], []⟩) ?_ ?_
   ·apply Wc.block
    refine Wc.loop (fun m st => ∃ (z2 : Int) (vw : Gt), st = ⟨[tV 1 (.func 142 [.vptr [aI uu]]), tP 4 4, tP 5 5, tV 19 (.sl (List.map Gt.c un.ga)), tI 20 (un.ga.length : Int), tI 21 z2], [bX0 4, (5, .cells (Gt.q vw) [(3, .app 31)])], []⟩ ∧ Z1r k (Zc k) un uu m z2 vw = some out2) ?_ k ⟨_, _, stB h38⟩
    rintro m st ⟨z2, vw, rfl, h38⟩
    rcases m with _ | m
    ·exact (Zk h38).elim
    refine Wc.s0 [1, 4, 5, 19, 20, 21, 22] [4, 5] ?_
    apply Wc.seq
    refine Wc.ci h38 (fun _ h38 => ?_) (fun _ h38 => ?_)
    ·refine Wc.ks [1, 4, 5, 19, 20, 21] [4, 5] ?_
     apply Wc.seq
     apply Wc.block
     obtain ⟨u2q, h40, h38⟩ := oc h38 fun u2q h40 => (Z11 (c := Gt.c) (Gt.c_eq u2q) Gt.c_len h40)
     refine Wc.s2 [hE h40] [1, 4, 5, 7, 19, 20, 21] [4, 5, 7] (o2 h40 (lenE h40 4)) ?_
     obtain ⟨zw, h42, h38⟩ := oc h38 fun _ => Z8u
     have h43 := (Z1l (c := Gt.c) (x := zw) (Gt.c_eq zw) (Z2s Gt.c))
     obtain ⟨h44, h38⟩ := Z4 h38
     have h45 := (Z30 Gt.c vw.ga [zw])
     refine Wc.dk hmix [{}, hM 1, {}, {}, hC h42, hB h43, { hB h45 with tk := [26] }, {}, hK [31]] [] [1, 4, 5, 19, 20, 21] [4, 5] [] (oC h42 (oC h43 (oA h45 Gt.c_leaf Gt.c_len h44 AllP.nil))) ?_
     refine Wc.k0 [1, 4, 5, 19, 20, 21] [4, 5] ?_
     exact ⟨_, Nat.lt_succ_self _, _, _, stB h38⟩
    refine Wc.ke [4, 5] [4, 5] ?_
    cases h38; exact ⟨_, rfl, by kernel_rfl⟩
   rintro st ⟨zf, rfl, rfl⟩
   refine Wc.s1 [hM 1, hK [34]] [4] [4] ?_
   cases h; exact Wc.ret dn
theorem Zaj {k : Nat} {un : Gt} {uu : Int} {r : Gt} (h : Zc k un uu = some r) : FnO Tryz.prog 39 [.v (.agg (Gt.q un)) [], .v (.func 142 [.vptr [aI uu]]) []] (.v (.agg (Gt.q r)) [(3, .app 31)]) [] := (Z8b k) h

def Zib (k : Nat) (Z34 : Gt → Int → Option Bool) (vq : Gt) (vo : Int) : Option Bool :=
 (Z34 vq vo).bind fun u1d =>
 some u1d
theorem Zyk {k : Nat} {Z34 : Gt → Int → Option Bool} (Zag : ∀ {y0 : Gt} {y1 : Int} {r : Bool}, Z34 y0 y1 = some r → FnO Tryz.prog 154 [.v (.agg (Gt.q y0)) [], .v (aI y1) []] (.v (.bool r) []) []) {vq : Gt} {vo : Int} {r : Bool} (h : Zib k Z34 vq vo = some r) : FnO Tryz.prog 163 [.v (.agg (Gt.q vq)) [], .v (.vptr [aI vo]) []] (.v (.bool r) []) [] := by
 refine FnO.o2 Tryz.func163 rfl fun _ _ _ _ _ _ => ?_
 unfold Zib at h
 refine Wc.s0 [1, 2] [2] ?_
 obtain ⟨u1d, h17, h⟩ := oc h fun _ => Zag
 refine Wc.s2 [{}, {}, hC h17] [3] [] (o2 (Zhi 1 [aI vo]) h17) ?_
 cases h; exact Wc.ret dn

def Zf (k : Nat) (Z34 : Gt → Int → Option Bool) (u2r : List Gt) (v7 : Int) : Nat → Int → Option (Out Int Unit)
 | 0, _ => none
 | m + 1, vf =>
  if (decide (vf < (u2r.length : Int))) = true then
   (at' u2r vf).bind fun un =>
   (Zib k Z34 un v7).bind fun u32 =>
   if u32 = true then
    some (.ret vf)
   else
    Zf k Z34 u2r v7 m (wr.i64 (vf + 1))
  else
   some (.done ())
def Zw (k : Nat) (Z34 : Gt → Int → Option Bool) (u2r : List Gt) (v7 : Int) : Option Int :=
 (Zf k Z34 u2r v7 k 0).bind fun out1 => match out1 with
 | .ret r => some r
 | .done () =>
  some (-1)
theorem Z3y {k : Nat} {Z34 : Gt → Int → Option Bool} (Zag : ∀ {y0 : Gt} {y1 : Int} {r : Bool}, Z34 y0 y1 = some r → FnO Tryz.prog 154 [.v (.agg (Gt.q y0)) [], .v (aI y1) []] (.v (.bool r) []) []) {u2r : List Gt} {v7 : Int} {r : Int} (h : Zw k Z34 u2r v7 = some r) : FnO Tryz.prog 175 [.v (.sl (List.map Gt.c u2r)) [], .v (.func 163 [.vptr [aI v7]]) []] (.v (aI r) []) [] := by
 refine FnO.o2 Tryz.func175 rfl fun _ _ _ _ _ _ => ?_
 unfold Zw at h
 refine Wc.s0 [0, 1] [] ?_
 apply Wc.seq
 refine Wc.s2 [{}, hL u2r] [0, 1, 7, 8] [] (o1 (Z2 Gt.c u2r)) ?_
 obtain ⟨out1, h15, h⟩ := Z2d h
 refine Wc.lastJ (fun st => out1 = .done () ∧ st = ⟨[], [], []⟩) ?_ ?_
 ·apply Wc.block
  refine Wc.loop (fun m st => ∃ (vf : Int), st = ⟨[tV 0 (.sl (List.map Gt.c u2r)), tV 1 (.func 163 [.vptr [aI v7]]), tI 7 (u2r.length : Int), tI 8 vf], [], []⟩ ∧ Zf k Z34 u2r v7 m vf = some out1) ?_ k ⟨_, stB h15⟩
  rintro m st ⟨vf, rfl, h15⟩
  rcases m with _ | m
  ·exact (Zk h15).elim
  refine Wc.s0 [0, 1, 7, 8, 9] [] ?_
  apply Wc.seq
  refine Wc.ci h15 (fun _ h15 => ?_) (fun _ h15 => ?_)
  ·refine Wc.ks [0, 1, 7, 8] [] ?_
   apply Wc.seq
   apply Wc.block
   refine Wc.s0 [0, 1, 5, 7, 8] [] ?_
   obtain ⟨un, h17, h15⟩ := oc h15 fun un h17 => (Z11 (c := Gt.c) (Gt.c_eq un) Gt.c_len h17)
   obtain ⟨u32, h18, h15⟩ := oc h15 fun u32 h18 => (Zyk (fun h => Zag h) h18)
   refine Wc.s2 [{}, {}, {}, hE h17, {}, hC h18] [0, 1, 5, 7, 8, 16] [] (o3 h17 (lenE h17 4) h18) ?_
   refine Wc.ci h15 (fun _ h15 => ?_) (fun _ h15 => ?_)
   ·refine Wc.s0 [4] [] ?_
    cases h15; cases h; exact Wc.ret dn
   refine Wc.ks [0, 1, 7, 8] [] ?_
   refine Wc.k0 [0, 1, 7, 8] [] ?_
   exact ⟨_, Nat.lt_succ_self _, _, stB h15⟩
  refine Wc.ke [] [] ?_
  cases h15; exact ⟨rfl, by kernel_rfl⟩
 rintro st ⟨rfl, rfl⟩
 refine Wc.s0 [4] [] ?_
 cases h; exact Wc.ret dn

def Zs (k : Nat) (Z34 : Gt → Int → Option Bool) (u4d : List Gt) (u4 : Int) : Option Bool :=
 (Zw k Z34 u4d u4).bind fun up =>
 some (decide (up ≥ 0))
theorem Z3d {k : Nat} {Z34 : Gt → Int → Option Bool} (Zag : ∀ {y0 : Gt} {y1 : Int} {r : Bool}, Z34 y0 y1 = some r → FnO Tryz.prog 154 [.v (.agg (Gt.q y0)) [], .v (aI y1) []] (.v (.bool r) []) []) {u4d : List Gt} {u4 : Int} {r : Bool} (h : Zs k Z34 u4d u4 = some r) : FnO Tryz.prog 162 [.v (.sl (List.map Gt.c u4d)) [], .v (.func 163 [.vptr [aI u4]]) []] (.v (.bool r) []) [] := by
 refine FnO.o2 Tryz.func162 rfl fun _ _ _ _ _ _ => ?_
 unfold Zs at h
 refine Wc.s0 [0, 1] [] ?_
 obtain ⟨up, h15, h⟩ := oc h fun up h15 => (Z3y (fun h => Zag h) h15)
 refine Wc.s2 [{}, {}, hC h15] [4] [] (o1 h15) ?_
 cases h; exact Wc.ret dn

mutual
def Zfp : Nat → Gt → Int → Option Bool
 | 0, _, _ => none
 | k + 1, v5, uc =>
  if (v5.gi == 1) = true then
   some (v5.gj == uc)
  else
   (Zs k (Zfp k) v5.ga uc).bind fun u33 =>
   some u33
end
theorem Zu1 : ∀ k : Nat, (∀ {v5 : Gt} {uc : Int} {r : Bool}, Zfp k v5 uc = some r → FnO Tryz.prog 154 [.v (.agg (Gt.q v5)) [], .v (aI uc) []] (.v (.bool r) []) []) := by
 intro k
 induction k with
 | zero =>
  ·intro v5 uc r h
   exact (Zk (by rw [Zfp] at h; exact h)).elim
 | succ k ih =>
  have Zag := @ih
  ·intro v5 uc r h
   rw [Zfp] at h
   refine FnO.o2 Tryz.func154 rfl fun _ _ _ _ _ _ => ?_
   refine Wc.s0 [2, 3] [2, 3] ?_
   apply Wc.seq
   refine Wc.s0 [2, 3, 7] [2, 3] ?_
   refine Wc.ci h (fun _ h => ?_) (fun _ h => ?_)
   ·refine Wc.s0 [4] [] ?_
    cases h; exact Wc.ret dn
   refine Wc.ks [2, 3] [2, 3] ?_
   refine Wc.zk 3 ?_
   obtain ⟨u33, h15, h⟩ := oc h fun u33 h15 => (Z3d (fun h => Zag h) h15)
   refine Wc.s2 [{}, {}, {}, hC h15] [4] [] (o1 h15) ?_
   cases h; exact Wc.ret dn
theorem Z12t {k : Nat} {v5 : Gt} {uc : Int} {r : Bool} (h : Zfp k v5 uc = some r) : FnO Tryz.prog 154 [.v (.agg (Gt.q v5)) [], .v (aI uc) []] (.v (.bool r) []) [] := (Zu1 k) h

def Z6m (k : Nat) (u1m : List Gt) : Nat → Int → Gt → Option (Out ((List Gt) × Gt) Gt)
 | 0, _, _ => none
 | m + 1, ud, uh =>
  if (decide (ud < 5000)) = true then
   if (uh.gi == 1) = true then
    (Z35 k uh.gj 0 (wr.i64 ((u1m.length : Int) - 1))).bind fun u1b =>
    if u1b = true then
     (at' u1m uh.gj).bind fun ub =>
     if (ub.gi != 0) = true then
      (at' u1m uh.gj).bind fun v5 =>
      Z6m k u1m m (wr.i64 (ud + 1)) v5
     else
      some (.done uh)
    else
     some (.done uh)
   else
    some (.done uh)
  else
   some (.done uh)
def Z1y (k : Nat) (u1m : List Gt) (u9 : Gt) : Option ((List Gt) × Gt) :=
 (Z6m k u1m k 0 u9).bind fun out1 => match out1 with
 | .ret r => some r
 | .done ui =>
  some (u1m, ui)
theorem Z5i {k : Nat} {u1m : List Gt} {u9 : Gt} {r : (List Gt) × Gt} (h : Z1y k u1m u9 = some r) : FnO Tryz.prog 38 [.io (.slx) [(0, .ex 31 false (List.map Gt.c u1m))], .v (.agg (Gt.q u9)) []] (.v (.agg (Gt.q r.2)) []) [(0, .v .undef [(0, .ex 31 false (List.map Gt.c r.1))])] := by
 refine FnO.o2 Tryz.func38 rfl fun _ _ _ _ _ _ => ?_
 unfold Z1y at h
 refine Wc.s3 [] [] [0, 3, 4] [3, 4] [0] .nil ?_
 apply Wc.seq
 refine Wc.s3 [] [] [0, 3, 4, 5] [3, 4] [0] .nil ?_
 obtain ⟨out1, h12, h⟩ := Z2d h
 refine Wc.lastJ (fun st => ∃ (ui : Gt), out1 = .done ui ∧ st = ⟨[tP 3 3, tP 4 4], [bC 3 (Gt.q ui), bX0 4], [(0, [(0, .ex 31 false (List.map Gt.c u1m))])]⟩) ?_ ?_
 ·apply Wc.block
  refine Wc.loop (fun m st => ∃ (ud : Int) (uh : Gt), st = ⟨[(0, (.v (.slx), [(0, .al (.a 0 0) [])])), tP 3 3, tP 4 4, tI 5 ud], [bC 3 (Gt.q uh), bX0 4], [(0, [(0, .ex 31 false (List.map Gt.c u1m))])]⟩ ∧ Z6m k u1m m ud uh = some out1) ?_ k ⟨_, _, stB h12⟩
  rintro m st ⟨ud, uh, rfl, h12⟩
  rcases m with _ | m
  ·exact (Zk h12).elim
  apply Wc.seq
  rcases oif h12 with ⟨h13, h12⟩ | ⟨h13, h12⟩
  ·rcases oif h12 with ⟨h14, h12⟩ | ⟨h14, h12⟩
   ·obtain ⟨u1b, h15, h12⟩ := oc h12 fun _ => Z4q
    rcases oif h12 with ⟨h16, h12⟩ | ⟨h16, h12⟩
    ·obtain ⟨ub, h17, h12⟩ := Z2d h12
     refine Wc.s3 [{}, {}, rT, {}, {}, {}, {}, rT, {}, {}, {}, hL u1m, {}, hC h15, {}, rT, {}, {}, {}, {}, {}, { v := some (aI ub.gi) }] [] [0, 3, 4, 5, 29] [3, 4] [0] (oC (cb h13) (oC (cb h14) (oC (Z2 Gt.c u1m) (oC h15 (oC (cb h16) (oC (Zhj (c := Gt.c) Gt.c_len h17) (oC (Zp2 (sz := 4) (off := 0) (s := 1) (ag := false) (v := aI ub.gi) (c := Gt.c) (Gt.c_eq ub) (Z5y h17).2 rfl (Nat.le_of_ble_eq_true rfl) rfl) AllP.nil))))))) ?_
     refine Wc.ci h12 (fun _ h12 => ?_) (fun _ h12 => ?_)
     ·refine Wc.fk [] [0, 3, 4, 5] [3, 4] [0] ?_
      apply Wc.skip
      apply Wc.seq
      apply Wc.block
      obtain ⟨v5, h20, h12⟩ := Z2d h12
      refine Wc.k3 [{}, {}, {}, {}, { v := some (.agg (Gt.q v5)) }] [] [0, 3, 4, 5] [3, 4] [0] (o2 (Zhj (c := Gt.c) Gt.c_len h20) (Zp2 (sz := 4) (off := 0) (s := 4) (ag := true) (v := .agg (Gt.q v5)) (c := Gt.c) (Gt.c_eq v5) (Z5y h20).2 rfl (Nat.le_of_ble_eq_true rfl) rfl)) ?_
      refine Wc.k3 [] [] [0, 3, 4, 5] [3, 4] [0] .nil ?_
      exact ⟨_, Nat.lt_succ_self _, _, _, stB h12⟩
     refine Wc.fk [] [3, 4] [3, 4] [0] ?_
     refine Wc.exit ?_
     cases h12; exact ⟨_, rfl, by kernel_rfl⟩
    refine Wc.s3 [{}, {}, rT, {}, {}, {}, {}, rT, {}, {}, {}, hL u1m, {}, hC h15, {}, rF] [] [0, 3, 4, 5, 29] [3, 4] [0] (oC (cb h13) (oC (cb h14) (oC (Z2 Gt.c u1m) (oC h15 (oC (cb h16) AllP.nil))))) ?_
    refine Wc.cF rfl ?_
    refine Wc.fk [] [3, 4] [3, 4] [0] ?_
    refine Wc.exit ?_
    cases h12; exact ⟨_, rfl, by kernel_rfl⟩
   refine Wc.s3 [{}, {}, rT, {}, {}, {}, {}, rF] [] [0, 3, 4, 5, 29] [3, 4] [0] (o2 (cb h13) (cb h14)) ?_
   refine Wc.cF rfl ?_
   refine Wc.fk [] [3, 4] [3, 4] [0] ?_
   refine Wc.exit ?_
   cases h12; exact ⟨_, rfl, by kernel_rfl⟩
  refine Wc.s3 [{}, {}, rF] [] [0, 3, 4, 5, 29] [3, 4] [0] (o1 (cb h13)) ?_
  refine Wc.cF rfl ?_
  refine Wc.fk [] [3, 4] [3, 4] [0] ?_
  refine Wc.exit ?_
  cases h12; exact ⟨_, rfl, by kernel_rfl⟩
 rintro st ⟨ui, rfl, rfl⟩
 refine Wc.s3 [] [] [4] [4] [0] .nil ?_
 cases h; exact Wc.ret dn

def Z15 (k : Nat) (ul : Gs) (va : Int) (uk : Gt) : Option (Gs × Bool) :=
 (Z64 k ul.gU.ge uk).bind fun u5j =>
 if (!u5j.2) = true then
  some (ul, false)
 else
  (Zfp k u5j.1 va).bind fun u1n =>
  if u1n = true then
   some (ul, false)
  else
   (Z35 k va 0 (wr.i64 ((ul.gU.ge.length : Int) - 1))).bind fun u2e =>
   if (!u2e) = true then
    some (ul, false)
   else
    (at' ul.gU.ge va).bind fun un =>
    if ul.gU.gd.length + [va].length ≤ 1073741824 then
     some (Gs.mk ul.gDb (Gu.mk (ul.gU.ge.set ((va).toNat) uk) (ul.gU.gd ++ [va]) ul.gU.gu) ul.gk ul.gl ul.gw ul.gh ul.gc ul.gf ul.gv, true)
    else none
theorem Z5x {k : Nat} {hv0 : Value} {ul : Gs} {va : Int} {uk : Gt} {r : Gs × Bool} (h : Z15 k ul va uk = some r) : FnO Tryz.prog 144 [.q 2 0 (Gs.kr hv0 ul) (Gs.h ul), .v (aI va) [], .v (.agg (Gt.q uk)) []] (.v (.bool r.2) []) [(0, .q 2 0 (Gs.kr hv0 r.1) (Gs.h r.1))] := by
 refine FnO.o2 Tryz.func144 rfl fun _ _ _ _ _ _ => ?_
 unfold Z15 at h
 refine Wc.s0 [0, 1, 5] [5, 1000000] ?_
 apply Wc.seq
 obtain ⟨u5j, h23, h⟩ := oc h fun _ => Zcl
 refine Wc.every hmix [{}, {}, {}, {}, {}, hC h23, hK [15], hK [9], {}, {}, hK [16]] [] [0, 1, 5, 7, 8] [5, 7, 1000000] [] ⟨[(0, (.ptr 1000000 2, [])), tI 1 va, tP 5 5, tP 7 7, tB 8 u5j.2], [bC 5 (Gt.q uk), (7, .cells (Gt.qx u5j.1) (Gt.h3_31t u5j.1)), (1000000, .cells (Gs.kr hv0 ul) (Gs.h ul))], []⟩ _ 145 (by kernel_rfl) (.cons .nil (.cons .nil (.cons .nil (.cons .nil (.cons .nil (.cons (oC h23 AllP.nil) (.cons .nil (.cons .nil (.cons .nil (.cons .nil (.cons .nil (.cons .nil .nil)))))))))))) ?_
 apply Wc.seq
 rcases oif h with ⟨h25, h⟩ | ⟨h25, h⟩
 ·refine Wc.s2 [{}, {}, rT] [0, 1, 5, 35] [5, 1000000] (o1 (cb h25)) ?_
  refine Wc.cT rfl ?_
  refine Wc.s0 [6] [1000000] ?_
  cases h; exact Wc.ret dn
 obtain ⟨u1n, h26, h⟩ := oc h fun _ => Z12t
 rcases oif h with ⟨h27, h⟩ | ⟨h27, h⟩
 ·refine Wc.s2 [{}, {}, rF, {}, {}, hC h26, {}, rT] [0, 1, 5, 35] [5, 1000000] (o3 (cb h25) h26 (cb h27)) ?_
  refine Wc.cT rfl ?_
  refine Wc.s0 [6] [1000000] ?_
  cases h; exact Wc.ret dn
 obtain ⟨u2e, h28, h⟩ := oc h fun _ => Z4q
 refine Wc.s2 [{}, {}, rF, {}, {}, hC h26, {}, rF, {}, {}, {}, {}, {}, hL ul.gU.ge, {}, hC h28] [0, 1, 5, 35] [5, 1000000] (oC (cb h25) (oC h26 (oC (cb h27) (oC (Z2 Gt.c ul.gU.ge) (oC h28 AllP.nil))))) ?_
 refine Wc.ci h (fun _ h => ?_) (fun _ h => ?_)
 ·refine Wc.s0 [6] [1000000] ?_
  cases h; exact Wc.ret dn
 refine Wc.ks [0, 1, 5] [5, 1000000] ?_
 apply Wc.seq
 obtain ⟨un, h32, h⟩ := Z2d h
 refine Wc.every hmix [{}, {}, {}, {}, {}, {}, {}, { c := some (List.map Gt.c (ul.gU.ge.set ((va).toNat) uk)) }] [] [0, 1] [1000000] [] ⟨[(0, (.ptr 1000000 2, [])), tI 1 va], [(1000000, .cells (Gs.kr hv0 ul) [(2, .ex 31 false (List.map Gt.c (ul.gU.ge.set ((va).toNat) uk))), (3, .ex 3 false (List.map cI.i64 ul.gU.gd)), (9, .ex 78 false (List.map Gp.c ul.gc)), (10, .ex 31 false (List.map Gt.c ul.gf.gp))])], []⟩ _ 30 (by kernel_rfl) (.cons .nil (.cons .nil (.cons .nil (.cons .nil (.cons .nil (.cons .nil (.cons (oC (Zhj (c := Gt.c) Gt.c_len h32) AllP.nil) (.cons (oC (Zmy (off := 0) (new := (Gt.q uk)) (c := Gt.c) (Gt.c_eq un) (Gt.c_eq uk) (Z5y h32).2 rfl) (oC (Zrm (sz := 4) (off := 0) (s := 4) (c := Gt.c) (Gt.c_eq un) (Z5y h32).2 rfl (Nat.le_of_ble_eq_true rfl)) AllP.nil)) .nil)))))))) ?_
 have h33 := (cR cI.i64 [va])
 obtain ⟨h34, h⟩ := Z4 h
 have h35 := (Z30 cI.i64 ul.gU.gd [va])
 refine Wc.s3 [{}, {}, {}, {}, hM 1, {}, hB h33, { hB h35 with tk := [47], md := 1 }, {}, {}, hK [50]] [.so 1000000] [] [1000000] [] (oC h33 (oA h35 cI.i64_leaf cI.i64_len h34 AllP.nil)) ?_
 refine Wc.s0 [6] [1000000] ?_
 cases h; exact Wc.ret dn

def Z1m (k : Nat) (Z4d : Gs → Gt → Gt → Option (Gs × Bool)) (zn : (List Gt) × Gt) (z5 : (List Gt) × Gt) : Nat → Int → Gs → Option (Out (Gs × Bool) Gs)
 | 0, _, _ => none
 | m + 1, v7, vc =>
  if (decide (v7 < (zn.2.ga.length : Int))) = true then
   (at' zn.2.ga v7).bind fun vq =>
   (at' z5.2.ga v7).bind fun ve =>
   (Z4d vc vq ve).bind fun u69 =>
   if (!u69.2) = true then
    some (.ret (u69.1, false))
   else
    Z1m k Z4d zn z5 m (wr.i64 (v7 + 1)) u69.1
  else
   some (.done vc)
def Z1f (k : Nat) (Z4d : Gs → Gt → Gt → Option (Gs × Bool)) (zn : (List Gt) × Gt) (z5 : (List Gt) × Gt) (u0 : Gs) (zm : Bool) : Option (Gs × Bool) :=
 if zm = true then
  if (zn.2.gj == z5.2.gj) = true then
   some (Gs.mk u0.gDb (Gu.mk z5.1 u0.gU.gd (wr.i64 (u0.gU.gu + 1))) u0.gk u0.gl u0.gw u0.gh u0.gc u0.gf u0.gv, true)
  else
   if (decide (zn.2.gj < z5.2.gj)) = true then
    (Z15 k (Gs.mk u0.gDb (Gu.mk z5.1 u0.gU.gd (wr.i64 (u0.gU.gu + 1))) u0.gk u0.gl u0.gw u0.gh u0.gc u0.gf u0.gv) z5.2.gj zn.2).bind fun u82 =>
    some (u82.1, u82.2)
   else
    (Z15 k (Gs.mk u0.gDb (Gu.mk z5.1 u0.gU.gd (wr.i64 (u0.gU.gu + 1))) u0.gk u0.gl u0.gw u0.gh u0.gc u0.gf u0.gv) zn.2.gj z5.2).bind fun u3m =>
    some (u3m.1, u3m.2)
 else
  if (zn.2.gi == 1) = true then
   (Z15 k (Gs.mk u0.gDb (Gu.mk z5.1 u0.gU.gd (wr.i64 (u0.gU.gu + 1))) u0.gk u0.gl u0.gw u0.gh u0.gc u0.gf u0.gv) zn.2.gj z5.2).bind fun u83 =>
   some (u83.1, u83.2)
  else
   if (z5.2.gi == 1) = true then
    (Z15 k (Gs.mk u0.gDb (Gu.mk z5.1 u0.gU.gd (wr.i64 (u0.gU.gu + 1))) u0.gk u0.gl u0.gw u0.gh u0.gc u0.gf u0.gv) z5.2.gj zn.2).bind fun vx =>
    some (vx.1, vx.2)
   else
    if (zn.2.gi != z5.2.gi) = true then
     some (Gs.mk u0.gDb (Gu.mk z5.1 u0.gU.gd (wr.i64 (u0.gU.gu + 1))) u0.gk u0.gl u0.gw u0.gh u0.gc u0.gf u0.gv, false)
    else
     if (!(sEq zn.2.gn z5.2.gn)) = true then
      some (Gs.mk u0.gDb (Gu.mk z5.1 u0.gU.gd (wr.i64 (u0.gU.gu + 1))) u0.gk u0.gl u0.gw u0.gh u0.gc u0.gf u0.gv, false)
     else
      if (zn.2.gj != z5.2.gj) = true then
       some (Gs.mk u0.gDb (Gu.mk z5.1 u0.gU.gd (wr.i64 (u0.gU.gu + 1))) u0.gk u0.gl u0.gw u0.gh u0.gc u0.gf u0.gv, false)
      else
       if ((zn.2.ga.length : Int) != (z5.2.ga.length : Int)) = true then
        some (Gs.mk u0.gDb (Gu.mk z5.1 u0.gU.gd (wr.i64 (u0.gU.gu + 1))) u0.gk u0.gl u0.gw u0.gh u0.gc u0.gf u0.gv, false)
       else
        (Z1m k Z4d zn z5 k 0 (Gs.mk u0.gDb (Gu.mk z5.1 u0.gU.gd (wr.i64 (u0.gU.gu + 1))) u0.gk u0.gl u0.gw u0.gh u0.gc u0.gf u0.gv)).bind fun out2 => match out2 with
        | .ret r => some r
        | .done vk =>
         some (vk, true)
mutual
def Z7 : Nat → Gs → Gt → Gt → Option (Gs × Bool)
 | 0, _, _, _ => none
 | k + 1, u0, uh, ui =>
  if (decide ((wr.i64 (u0.gU.gu + 1)) > 2000)) = true then
   some (Gs.mk u0.gDb (Gu.mk u0.gU.ge u0.gU.gd (wr.i64 (u0.gU.gu + 1))) u0.gk u0.gl u0.gw u0.gh u0.gc u0.gf u0.gv, false)
  else
   (Z1y k u0.gU.ge uh).bind fun zn =>
   (Z1y k zn.1 ui).bind fun z5 =>
   if (zn.2.gi == 1) = true then
    Z1f k (Z7 k) zn z5 u0 (z5.2.gi == 1)
   else
    Z1f k (Z7 k) zn z5 u0 false
end
set_option maxHeartbeats 4000000 in
theorem Zct : ∀ k : Nat, (∀ {hv0 : Value} {u0 : Gs} {uh : Gt} {ui : Gt} {r : Gs × Bool}, Z7 k u0 uh ui = some r → FnO Tryz.prog 121 [.q 2 0 (Gs.kr hv0 u0) (Gs.h u0), .v (.agg (Gt.q uh)) [], .v (.agg (Gt.q ui)) []] (.v (.bool r.2) []) [(0, .q 2 0 (Gs.kr hv0 r.1) (Gs.h r.1))]) := by
 intro k
 induction k with
 | zero =>
  ·intro hv0 u0 uh ui r h
   exact (Zk (by rw [Z7] at h; exact h)).elim
 | succ k ih =>
  have Zcz := @ih
  ·intro hv0 u0 uh ui r h
   rw [Z7] at h
   refine FnO.o2 Tryz.func121 rfl fun _ _ _ _ _ _ => ?_
   refine Wc.s0 [0, 4, 5] [4, 5, 1000000] ?_
   refine Wc.s0 [0, 4, 5] [4, 5, 1000000] ?_
   apply Wc.seq
   refine Wc.s0 [0, 4, 5, 19] [4, 5, 1000000] ?_
   refine Wc.ci h (fun _ h => ?_) (fun _ h => ?_)
   ·refine Wc.s0 [6] [1000000] ?_
    cases h; exact Wc.ret dn
   refine Wc.ks [0, 4, 5] [4, 5, 1000000] ?_
   apply Wc.seq
   obtain ⟨zn, h16, h⟩ := oc h fun _ => Z5i
   obtain ⟨z5, h17, h⟩ := oc h fun _ => Z5i
   refine Wc.meet hmix [{}, {}, {}, {}, {}, { hC h16 with io := [0] }, {}, {}, {}, {}, {}, { hC h17 with io := [0] }] [[], [], [], [], [], [.al 23 1000000 2], [], [], [], [], [], [.al 29 1000000 2]] [[], [], [], [.raw 23 1000000 2], [], [], [], [], [], [.raw 29 1000000 2]] [0, 4, 5, 20, 21, 22, 23, 24, 25, 26, 27, 28, 29, 30, 31] [4, 5, 1000000] [] [] [0, 4, 5] [4, 5, 1000000] [] ⟨[(0, (.ptr 1000000 2, [])), tP 4 4, tP 5 5], [bC 4 (Gt.q zn.2), bC 5 (Gt.q z5.2), (1000000, .cells [.sl (List.map Gc.c u0.gDb.gq), .sl (List.map cS u0.gDb.gy), .raw hv0, .slx, aI (wr.i64 (u0.gU.gu + 1)), aI u0.gk, aI u0.gl, aI u0.gw, Gf.v u0.gh, .slx, .slx, aI u0.gf.gz, aI u0.gf.gx.gi, .str u0.gf.gx.gn, aI u0.gf.gx.gj, .sl (List.map Gt.c u0.gf.gx.ga), .str u0.gf.gf, .sl (List.map Gc.c u0.gf.gDb.gq), .sl (List.map cS u0.gf.gDb.gy), aI u0.gf.gl, .bool u0.gv] [(2, .ex 31 false (List.map Gt.c z5.1)), (3, .ex 3 false (List.map cI.i64 u0.gU.gd)), (9, .ex 78 false (List.map Gp.c u0.gc)), (10, .ex 31 false (List.map Gt.c u0.gf.gp))])], []⟩ _ [0, 1, 16, 64, 1024, 3, 17, 65, 1025, 80, 1040, 192, 1088, 7, 19, 67, 1027, 81, 1041, 193, 1089, 208, 1104, 448, 1216, 15, 23, 71, 1031, 83, 1043, 195, 1091, 209, 1105, 449, 1217, 464, 1232, 960, 1472, 31, 79, 1039, 87, 1047, 199, 1095, 211, 1107, 451, 1219, 465, 1233, 961, 1473, 976, 1488, 1984, 63, 95, 1055, 207, 1103, 215, 1111, 455, 1223, 467, 1235, 963, 1475, 977, 1489, 1985, 2000, 127, 1087, 223, 1119, 463, 1231, 471, 1239, 967, 1479, 979, 1491, 1987, 2001, 255, 1151, 479, 1247, 975, 1487, 983, 1495, 1991, 2003, 511, 1279, 991, 1503, 1999, 2007, 1023, 1535, 2015, 2047, 4095, 8191, 16383] (by kernel_rfl) (by kernel_rfl) (by as_aux_lemma => kernel_rfl) (by kernel_rfl) (by kernel_rfl) (.cons .nil (.cons .nil (.cons .nil (.cons .nil (.cons .nil (.cons (.cons (rfl : hv0 = hv0) (oC h16 AllP.nil)) (.cons .nil (.cons .nil (.cons .nil (.cons .nil (.cons .nil (.cons (.cons (rfl : hv0 = hv0) (oC h17 AllP.nil)) (.cons .nil (.cons .nil .nil)))))))))))))) ?_
   apply Wc.seq
   apply Wc.block
   refine Wc.seqJ (fun st => ∃ (zm : Bool), st = ⟨[(0, (.ptr 1000000 2, [])), tP 4 4, tP 5 5, tB 32 zm], [bC 4 (Gt.q zn.2), bC 5 (Gt.q z5.2), (1000000, .cells [.sl (List.map Gc.c u0.gDb.gq), .sl (List.map cS u0.gDb.gy), .raw hv0, .slx, aI (wr.i64 (u0.gU.gu + 1)), aI u0.gk, aI u0.gl, aI u0.gw, Gf.v u0.gh, .slx, .slx, aI u0.gf.gz, aI u0.gf.gx.gi, .str u0.gf.gx.gn, aI u0.gf.gx.gj, .sl (List.map Gt.c u0.gf.gx.ga), .str u0.gf.gf, .sl (List.map Gc.c u0.gf.gDb.gq), .sl (List.map cS u0.gf.gDb.gy), aI u0.gf.gl, .bool u0.gv] [(2, .ex 31 false (List.map Gt.c z5.1)), (3, .ex 3 false (List.map cI.i64 u0.gU.gd)), (9, .ex 78 false (List.map Gp.c u0.gc)), (10, .ex 31 false (List.map Gt.c u0.gf.gp))])], []⟩ ∧ Z1f k (Z7 k) zn z5 u0 zm = some r) ?_ ?_
   ·rcases oif h with ⟨h46, h⟩ | ⟨h46, h⟩
    ·refine Wc.k2 [{}, {}, {}, rT] [0, 4, 5, 32] [4, 5, 1000000] (o1 (cb h46)) ?_
     exact ⟨_, stB h⟩
    refine Wc.k2 [{}, {}, {}, rF] [0, 4, 5, 32] [4, 5, 1000000] (o1 (cb h46)) ?_
    exact ⟨_, stB h⟩
   rintro st ⟨zm, rfl, h⟩
   refine Wc.ci h (fun _ h => ?_) (fun _ h => ?_)
   ·apply Wc.seq
    refine Wc.s0 [0, 4, 5, 45] [4, 5, 1000000] ?_
    refine Wc.ci h (fun _ h => ?_) (fun _ h => ?_)
    ·refine Wc.s0 [6] [1000000] ?_
     cases h; exact Wc.ret dn
    refine Wc.ks [0, 4, 5] [4, 5, 1000000] ?_
    apply Wc.seq
    refine Wc.s0 [0, 4, 5, 50] [4, 5, 1000000] ?_
    refine Wc.ci h (fun _ h => ?_) (fun _ h => ?_)
    ·refine Wc.k0 [0, 4, 5] [4, 5, 1000000] ?_
     obtain ⟨u82, h23, h⟩ := oc h fun u82 h23 => (Z5x (hv0 := hv0) h23)
     refine Wc.s2 [{}, {}, {}, {}, hC h23] [6] [1000000] (o1 h23) ?_
     cases h; exact Wc.ret dn
    refine Wc.ks [0, 4, 5] [4, 5, 1000000] ?_
    obtain ⟨u3m, h25, h⟩ := oc h fun u3m h25 => (Z5x (hv0 := hv0) h25)
    refine Wc.s2 [{}, {}, {}, {}, hC h25] [6] [1000000] (o1 h25) ?_
    cases h; exact Wc.ret dn
   refine Wc.s0 [0, 4, 5, 58] [4, 5, 1000000] ?_
   refine Wc.ci h (fun _ h => ?_) (fun _ h => ?_)
   ·obtain ⟨u83, h28, h⟩ := oc h fun u83 h28 => (Z5x (hv0 := hv0) h28)
    refine Wc.s2 [{}, {}, {}, {}, hC h28] [6] [1000000] (o1 h28) ?_
    cases h; exact Wc.ret dn
   refine Wc.s0 [0, 4, 5, 67] [4, 5, 1000000] ?_
   refine Wc.ci h (fun _ h => ?_) (fun _ h => ?_)
   ·obtain ⟨vx, h31, h⟩ := oc h fun vx h31 => (Z5x (hv0 := hv0) h31)
    refine Wc.s2 [{}, {}, {}, {}, hC h31] [6] [1000000] (o1 h31) ?_
    cases h; exact Wc.ret dn
   refine Wc.ks [0, 4, 5] [4, 5, 1000000] ?_
   apply Wc.seq
   rcases oif h with ⟨h33, h⟩ | ⟨h33, h⟩
   ·refine Wc.s2 [{}, {}, {}, {}, {}, rT] [0, 4, 5, 103] [4, 5, 1000000] (o1 (cb h33)) ?_
    refine Wc.cT rfl ?_
    refine Wc.s0 [6] [1000000] ?_
    cases h; exact Wc.ret dn
   rcases oif h with ⟨h34, h⟩ | ⟨h34, h⟩
   ·refine Wc.s2 [{}, {}, {}, {}, {}, rF, {}, {}, {}, {}, {}, {}, rT] [0, 4, 5, 103] [4, 5, 1000000] (o2 (cb h33) (cb h34)) ?_
    refine Wc.cT rfl ?_
    refine Wc.s0 [6] [1000000] ?_
    cases h; exact Wc.ret dn
   rcases oif h with ⟨h35, h⟩ | ⟨h35, h⟩
   ·refine Wc.s2 [{}, {}, {}, {}, {}, rF, {}, {}, {}, {}, {}, {}, rF, {}, {}, {}, {}, {}, {}, rT] [0, 4, 5, 103] [4, 5, 1000000] (o3 (cb h33) (cb h34) (cb h35)) ?_
    refine Wc.cT rfl ?_
    refine Wc.s0 [6] [1000000] ?_
    cases h; exact Wc.ret dn
   refine Wc.s2 [{}, {}, {}, {}, {}, rF, {}, {}, {}, {}, {}, {}, rF, {}, {}, {}, {}, {}, {}, rF, {}, {}, hL zn.2.ga, {}, {}, hL z5.2.ga] [0, 4, 5, 103] [4, 5, 1000000] (oC (cb h33) (oC (cb h34) (oC (cb h35) (oC (Z2 Gt.c zn.2.ga) (oC (Z2 Gt.c z5.2.ga) AllP.nil))))) ?_
   refine Wc.ci h (fun _ h => ?_) (fun _ h => ?_)
   ·refine Wc.s0 [6] [1000000] ?_
    cases h; exact Wc.ret dn
   refine Wc.ks [0, 4, 5] [4, 5, 1000000] ?_
   apply Wc.seq
   refine Wc.s2 [{}, {}, hL zn.2.ga] [0, 4, 5, 106, 107] [4, 5, 1000000] (o1 (Z2 Gt.c zn.2.ga)) ?_
   obtain ⟨out2, h37, h⟩ := Z2d h
   refine Wc.lastJ (fun st => ∃ (vk : Gs), out2 = .done vk ∧ st = ⟨[], [(1000000, .cells (Gs.kr hv0 vk) (Gs.h vk))], []⟩) ?_ ?_
   ·apply Wc.block
    refine Wc.loop (fun m st => ∃ (v7 : Int) (vc : Gs), st = ⟨[(0, (.ptr 1000000 2, [])), tP 4 4, tP 5 5, tI 106 (zn.2.ga.length : Int), tI 107 v7], [bC 4 (Gt.q zn.2), bC 5 (Gt.q z5.2), (1000000, .cells (Gs.kr hv0 vc) (Gs.h vc))], []⟩ ∧ Z1m k (Z7 k) zn z5 m v7 vc = some out2) ?_ k ⟨_, _, stB h37⟩
    rintro m st ⟨v7, vc, rfl, h37⟩
    rcases m with _ | m
    ·exact (Zk h37).elim
    refine Wc.s0 [0, 4, 5, 106, 107, 108] [4, 5, 1000000] ?_
    apply Wc.seq
    refine Wc.ci h37 (fun _ h37 => ?_) (fun _ h37 => ?_)
    ·refine Wc.ks [0, 4, 5, 106, 107] [4, 5, 1000000] ?_
     apply Wc.seq
     apply Wc.block
     refine Wc.s0 [0, 4, 5, 7, 106, 107] [4, 5, 1000000] ?_
     apply Wc.seq
     obtain ⟨vq, h39, h37⟩ := oc h37 fun vq h39 => (Z11 (c := Gt.c) (Gt.c_eq vq) Gt.c_len h39)
     obtain ⟨ve, h40, h37⟩ := oc h37 fun ve h40 => (Z11 (c := Gt.c) (Gt.c_eq ve) Gt.c_len h40)
     obtain ⟨u69, h41, h37⟩ := oc h37 fun u69 h41 => (Zcz (hv0 := hv0) h41)
     refine Wc.dk hmix [{}, {}, {}, {}, hE h39, {}, {}, {}, {}, hE h40, {}, hC h41] [] [0, 4, 5, 106, 107, 122] [4, 5, 1000000] [] (oC h39 (oC (lenE h39 4) (oC h40 (oC (lenE h40 4) (oC h41 AllP.nil))))) ?_
     refine Wc.ci h37 (fun _ h37 => ?_) (fun _ h37 => ?_)
     ·refine Wc.s0 [6] [1000000] ?_
      cases h37; cases h; exact Wc.ret dn
     refine Wc.ks [0, 4, 5, 106, 107] [4, 5, 1000000] ?_
     refine Wc.k0 [0, 4, 5, 106, 107] [4, 5, 1000000] ?_
     exact ⟨_, Nat.lt_succ_self _, _, _, stB h37⟩
    refine Wc.ke [] [1000000] ?_
    cases h37; exact ⟨_, rfl, by kernel_rfl⟩
   rintro st ⟨vk, rfl, rfl⟩
   refine Wc.s0 [6] [1000000] ?_
   cases h; exact Wc.ret dn
theorem Zf0 {k : Nat} {hv0 : Value} {u0 : Gs} {uh : Gt} {ui : Gt} {r : Gs × Bool} (h : Z7 k u0 uh ui = some r) : FnO Tryz.prog 121 [.q 2 0 (Gs.kr hv0 u0) (Gs.h u0), .v (.agg (Gt.q uh)) [], .v (.agg (Gt.q ui)) []] (.v (.bool r.2) []) [(0, .q 2 0 (Gs.kr hv0 r.1) (Gs.h r.1))] := (Zct k) h

def Z4h (k : Nat) (u4 : Int) : Nat → Gs → Option (Out (Gs × Bool) Gs)
 | 0, _ => none
 | m + 1, ux =>
  if (decide ((ux.gU.ge.length : Int) < u4)) = true then
   if ux.gU.ge.length + [Gt.mk 0 (bs []) 0 []].length ≤ 1073741824 then
    (at' (ux.gU.ge ++ [Gt.mk 0 (bs []) 0 []]) (ux.gU.ge.length : Int)).bind fun zv =>
    Z4h k u4 m (Gs.mk ux.gDb (Gu.mk ((ux.gU.ge ++ [Gt.mk 0 (bs []) 0 []]).set (((ux.gU.ge.length : Int)).toNat) (Gt.mk 0 (bs []) 0 [])) ux.gU.gd ux.gU.gu) ux.gk ux.gl ux.gw ux.gh ux.gc ux.gf ux.gv)
   else none
  else
   some (.done ux)
def Z20 (k : Nat) (v8 : Gs) (u4 : Int) : Option (Gs × Bool) :=
 (Z4h k u4 k (Gs.mk v8.gDb v8.gU u4 v8.gl v8.gw v8.gh v8.gc v8.gf v8.gv)).bind fun out1 => match out1 with
 | .ret r => some r
 | .done vr =>
  if 0 ≤ u4 ∧ u4 ≤ (vr.gU.ge.length : Int) then
   some (Gs.mk vr.gDb (Gu.mk (vr.gU.ge.take (u4).toNat) vr.gU.gd vr.gU.gu) vr.gk vr.gl vr.gw vr.gh vr.gc vr.gf vr.gv, decide (u4 ≤ 3000))
  else none
theorem Z6g {k : Nat} {v8 : Gs} {u4 : Int} {r : Gs × Bool} (h : Z20 k v8 u4 = some r) : FnO Tryz.prog 15 [.p (Gs.k v8) (Gs.h v8), .v (aI u4) []] (.v (.bool r.2) []) [(0, .p (Gs.k r.1) (Gs.h r.1))] := by
 refine FnO.o2 Tryz.func15 rfl fun _ _ _ _ _ _ => ?_
 unfold Z20 at h
 refine Wc.s0 [0, 1] [1000000] ?_
 refine Wc.s0 [0, 1] [1000000] ?_
 obtain ⟨out1, h18, h⟩ := Z2d h
 refine Wc.seqJ (fun st => ∃ (vr : Gs), out1 = .done vr ∧ st = ⟨[tP 0 1000000, tI 1 u4], [(1000000, .cells (Gs.k vr) (Gs.h vr))], []⟩) ?_ ?_
 ·apply Wc.block
  refine Wc.loop (fun m st => ∃ (ux : Gs), st = ⟨[tP 0 1000000, tI 1 u4], [(1000000, .cells (Gs.k ux) (Gs.h ux))], []⟩ ∧ Z4h k u4 m ux = some out1) ?_ k ⟨_, stB h18⟩
  rintro m st ⟨ux, rfl, h18⟩
  rcases m with _ | m
  ·exact (Zk h18).elim
  apply Wc.seq
  refine Wc.s2 [{}, {}, {}, {}, {}, hL ux.gU.ge] [0, 1, 16] [1000000] (o1 (Z2 Gt.c ux.gU.ge)) ?_
  refine Wc.ci h18 (fun _ h18 => ?_) (fun _ h18 => ?_)
  ·refine Wc.ks [0, 1] [1000000] ?_
   apply Wc.block
   have h20 := (Z1l (c := Gt.c) (x := Gt.mk 0 (bs []) 0 []) (Gt.c_eq (Gt.mk 0 (bs []) 0 [])) (Z2s Gt.c))
   obtain ⟨h21, h18⟩ := Z4 h18
   have h22 := (Z30 Gt.c ux.gU.ge [Gt.mk 0 (bs []) 0 []])
   obtain ⟨zv, h23, h18⟩ := Z2d h18
   refine Wc.meet hmix [{}, {}, {}, {}, hM 1, {}, hL ux.gU.ge, hB h20, { hB h22 with tk := [21], md := 1 }, {}, { c := some (List.map Gt.c ((ux.gU.ge ++ [Gt.mk 0 (bs []) 0 []]).set (((ux.gU.ge.length : Int)).toNat) (Gt.mk 0 (bs []) 0 []))), tk := [22] }, {}, {}, {}, { tk := [25], io := [26], md := 5 }] [] [] [0, 1, 17, 18, 19, 20, 21, 22, 23, 24, 25, 26, 27, 28, 29] [1000000] [] [.so 1000000] [0, 1] [1000000] [] ⟨[tP 0 1000000, tI 1 u4], [(1000000, .cells (Gs.k ux) [(2, .ex 31 false (List.map Gt.c ((ux.gU.ge ++ [Gt.mk 0 (bs []) 0 []]).set (((ux.gU.ge.length : Int)).toNat) (Gt.mk 0 (bs []) 0 [])))), (3, .ex 3 false (List.map cI.i64 ux.gU.gd)), (9, .ex 78 false (List.map Gp.c ux.gc)), (10, .ex 31 false (List.map Gt.c ux.gf.gp))])], []⟩ _ [0, 1, 32, 128, 3, 33, 129, 160, 7, 35, 131, 161, 15, 39, 135, 163, 31, 47, 143, 167, 63, 95, 159, 175, 127, 191, 223, 255, 511, 1023, 2559, 2047, 3071, 6655, 4095, 7167, 14847, 8191, 15359, 31231, 16383, 31743, 32767] (by kernel_rfl) (by kernel_rfl) (by as_aux_lemma => kernel_rfl) (by kernel_rfl) (by kernel_rfl) (.cons .nil (.cons .nil (.cons .nil (.cons .nil (.cons .nil (.cons .nil (.cons (oC (Z2 Gt.c ux.gU.ge) AllP.nil) (.cons (oC h20 AllP.nil) (.cons (oA h22 Gt.c_leaf Gt.c_len h21 AllP.nil) (.cons (oC (Zhj (c := Gt.c) Gt.c_len h23) AllP.nil) (.cons (oC (Zmy (off := 0) (new := Gt.z) (c := Gt.c) (Gt.c_eq zv) (Gt.c_eq (Gt.mk 0 (bs []) 0 [])) (Z5y h23).2 rfl) (oC (Zrm (sz := 4) (off := 0) (s := 4) (c := Gt.c) (Gt.c_eq zv) (Z5y h23).2 rfl (Nat.le_of_ble_eq_true rfl)) AllP.nil)) (.cons .nil (.cons .nil (.cons .nil (.cons .nil .nil))))))))))))))) ?_
   exact ⟨_, Nat.lt_succ_self _, _, stB h18⟩
  refine Wc.ke [0, 1] [1000000] ?_
  cases h18; exact ⟨_, rfl, by kernel_rfl⟩
 rintro st ⟨vr, rfl, rfl⟩
 obtain ⟨h24, h⟩ := Z4 h
 refine Wc.s3 [{}, {}, {}, {}, {}, {}, {}, { c := some (List.map Gt.c (vr.gU.ge.take (u4).toNat)), tk := [35], fx := [.pl 35] }, {}, {}, {}, hK [37]] [.so 1000000] [1] [1000000] [] (o2 (Zgf Gt.c vr.gU.ge u4) (Zdv (c := Gt.c) h24)) ?_
 refine Wc.s0 [4] [1000000] ?_
 cases h; exact Wc.ret dn

def Z4z (k : Nat) (v2 : Gs) (ud : Int) : Nat → Int → Gs → Option (Out Gs Gs)
 | 0, _, _ => none
 | m + 1, um, u3 =>
  if (decide (um < (((((List.map cI.i64 v2.gU.gd).length : Int)).toNat - (ud).toNat : Nat) : Int))) = true then
   if 0 ≤ um ∧ (um).toNat < (((List.map cI.i64 v2.gU.gd).length : Int)).toNat - (ud).toNat then
    ((u3.gU.gd)[(ud).toNat + (um).toNat]?).bind fun v0 =>
    (at' u3.gU.ge v0).bind fun z3 =>
    Z4z k v2 ud m (wr.i64 (um + 1)) (Gs.mk u3.gDb (Gu.mk (u3.gU.ge.set ((v0).toNat) (Gt.mk 0 (bs []) 0 [])) u3.gU.gd u3.gU.gu) u3.gk u3.gl u3.gw u3.gh u3.gc u3.gf u3.gv)
   else none
  else
   some (.done u3)
def Z1b (k : Nat) (v2 : Gs) (ud : Int) (uo : Int) : Option Gs :=
 if 0 ≤ ud ∧ ud ≤ (v2.gU.gd.length : Int) ∧ (v2.gU.gd.length : Int) ≤ (v2.gU.gd.length : Int) then
  (Z4z k v2 ud k 0 v2).bind fun out1 => match out1 with
  | .ret r => some r
  | .done v1 =>
   if 0 ≤ ud ∧ ud ≤ (v1.gU.gd.length : Int) then
    (Z20 k (Gs.mk v1.gDb (Gu.mk v1.gU.ge (v1.gU.gd.take (ud).toNat) v1.gU.gu) v1.gk v1.gl v1.gw v1.gh v1.gc v1.gf v1.gv) uo).bind fun u3m =>
    some u3m.1
   else none
 else none
theorem Z6t {k : Nat} {v2 : Gs} {ud : Int} {uo : Int} {r : Gs} (h : Z1b k v2 ud uo = some r) : FnO Tryz.prog 85 [.p (Gs.k v2) (Gs.h v2), .v (aI ud) [], .v (aI uo) []] (.v (.tup []) []) [(0, .p (Gs.k r) (Gs.h r))] := by
 refine FnO.o2 Tryz.func85 rfl fun _ _ _ _ _ _ => ?_
 unfold Z1b at h
 apply Wc.seq
 obtain ⟨h11, h⟩ := Z4 h
 refine Wc.s2 [] [0, 1, 2, 14, 15, 16] [1000000] (o1 (Zv2 (c := cI.i64) h11)) ?_
 obtain ⟨out1, h12, h⟩ := Z2d h
 refine Wc.lastJ (fun st => ∃ (v1 : Gs), out1 = .done v1 ∧ st = ⟨[tP 0 1000000, tI 1 ud, tI 2 uo], [(1000000, .cells (Gs.k v1) (Gs.h v1))], []⟩) ?_ ?_
 ·apply Wc.block
  refine Wc.loop (fun m st => ∃ (um : Int) (u3 : Gs), st = ⟨[tP 0 1000000, tI 1 ud, tI 2 uo, (14, (.v (.slx), [(0, .sb (.b 1000000 3) [] ((ud).toNat) 1 ((((List.map cI.i64 v2.gU.gd).length : Int)).toNat - (ud).toNat))])), tI 15 (((((List.map cI.i64 v2.gU.gd).length : Int)).toNat - (ud).toNat : Nat) : Int), tI 16 um], [(1000000, .cells (Gs.k u3) (Gs.h u3))], []⟩ ∧ Z4z k v2 ud m um u3 = some out1) ?_ k ⟨_, _, stB h12⟩
  rintro m st ⟨um, u3, rfl, h12⟩
  rcases m with _ | m
  ·exact (Zk h12).elim
  refine Wc.s0 [0, 1, 2, 14, 15, 16, 17] [1000000] ?_
  apply Wc.seq
  refine Wc.ci h12 (fun _ h12 => ?_) (fun _ h12 => ?_)
  ·refine Wc.ks [0, 1, 2, 14, 15, 16] [1000000] ?_
   apply Wc.seq
   apply Wc.block
   obtain ⟨h14, h12⟩ := Z4 h12
   obtain ⟨v0, h15, h12⟩ := Z2d h12
   refine Wc.s2 [{}, { v := some (aI v0) }] [0, 1, 2, 7, 14, 15, 16] [1000000] (o2 h14 (Zp2 (sz := 1) (off := 0) (s := 1) (ag := false) (v := aI v0) (c := cI.i64) rfl h15 rfl (Nat.le_of_ble_eq_true rfl) rfl)) ?_
   obtain ⟨z3, h16, h12⟩ := Z2d h12
   refine Wc.k2 [{}, {}, {}, {}, {}, {}, {}, {}, { c := some (List.map Gt.c (u3.gU.ge.set ((v0).toNat) (Gt.mk 0 (bs []) 0 []))), tk := [26] }] [0, 1, 2, 14, 15, 16] [1000000] (o3 (Zhj (c := Gt.c) Gt.c_len h16) (Zmy (off := 0) (new := Gt.z) (c := Gt.c) (Gt.c_eq z3) (Gt.c_eq (Gt.mk 0 (bs []) 0 [])) (Z5y h16).2 rfl) (Zrm (sz := 4) (off := 0) (s := 4) (c := Gt.c) (Gt.c_eq z3) (Z5y h16).2 rfl (Nat.le_of_ble_eq_true rfl))) ?_
   refine Wc.k0 [0, 1, 2, 14, 15, 16] [1000000] ?_
   exact ⟨_, Nat.lt_succ_self _, _, _, stB h12⟩
  refine Wc.ke [0, 1, 2] [1000000] ?_
  cases h12; exact ⟨_, rfl, by kernel_rfl⟩
 rintro st ⟨v1, rfl, rfl⟩
 obtain ⟨h17, h⟩ := Z4 h
 refine Wc.s3 [{}, {}, {}, {}, {}, {}, {}, { c := some (List.map cI.i64 (v1.gU.gd.take (ud).toNat)), tk := [34], fx := [.pl 34] }, {}, {}, {}, hK [36]] [.so 1000000] [0, 2] [1000000] [] (o2 (Zgf cI.i64 v1.gU.gd ud) (Zdv (c := cI.i64) h17)) ?_
 obtain ⟨u3m, h18, h⟩ := oc h fun _ => Z6g
 refine Wc.k2 [{}, {}, hC h18] [] [1000000] (o1 h18) ?_
 cases h; exact ⟨(by first | exact .inl rfl | exact .inr rfl), by kernel_rfl, by kernel_rfl⟩

def Z5n (k : Nat) (Z8e : (List Gt) → Option Int) (zo : List Gt) : Nat → Int → Int → Option (Out Int Int)
 | 0, _, _ => none
 | m + 1, uo, um =>
  if (decide (um < (zo.length : Int))) = true then
   (at' zo um).bind fun ub =>
   if (ub.gi == 1) = true then
    (Z8e ub.ga).bind fun v0 =>
    Z5n k Z8e zo m (if v0 > (if (wr.i64 (ub.gj + 1)) > uo then (wr.i64 (ub.gj + 1)) else uo) then v0 else (if (wr.i64 (ub.gj + 1)) > uo then (wr.i64 (ub.gj + 1)) else uo)) (wr.i64 (um + 1))
   else
    (Z8e ub.ga).bind fun uc =>
    Z5n k Z8e zo m (if uc > uo then uc else uo) (wr.i64 (um + 1))
  else
   some (.done uo)
mutual
def Z2v : Nat → (List Gt) → Option Int
 | 0, _ => none
 | k + 1, zo =>
  (Z5n k (Z2v k) zo k 0 0).bind fun out1 => match out1 with
  | .ret r => some r
  | .done u7 =>
   some u7
end
theorem Zkn : ∀ k : Nat, (∀ {zo : List Gt} {r : Int}, Z2v k zo = some r → FnO Tryz.prog 16 [.v (.sl (List.map Gt.c zo)) []] (.v (aI r) []) []) := by
 intro k
 induction k with
 | zero =>
  ·intro zo r h
   exact (Zk (by rw [Z2v] at h; exact h)).elim
 | succ k ih =>
  have Zel := @ih
  ·intro zo r h
   rw [Z2v] at h
   refine FnO.o2 Tryz.func16 rfl fun _ _ _ _ _ _ => ?_
   refine Wc.s0 [0] [] ?_
   refine Wc.s0 [0, 3] [] ?_
   apply Wc.seq
   refine Wc.s2 [{}, hL zo] [3, 6, 7, 8] [] (o1 (Z2 Gt.c zo)) ?_
   obtain ⟨out1, h15, h⟩ := Z2d h
   refine Wc.lastJ (fun st => ∃ (u7 : Int), out1 = .done u7 ∧ st = ⟨[tI 3 u7], [], []⟩) ?_ ?_
   ·apply Wc.block
    refine Wc.loop (fun m st => ∃ (uo : Int) (um : Int), st = ⟨[tI 3 uo, tV 6 (.sl (List.map Gt.c zo)), tI 7 (zo.length : Int), tI 8 um], [], []⟩ ∧ Z5n k (Z2v k) zo m uo um = some out1) ?_ k ⟨_, _, stB h15⟩
    rintro m st ⟨uo, um, rfl, h15⟩
    rcases m with _ | m
    ·exact (Zk h15).elim
    refine Wc.s0 [3, 6, 7, 8, 9] [] ?_
    apply Wc.seq
    refine Wc.ci h15 (fun _ h15 => ?_) (fun _ h15 => ?_)
    ·refine Wc.ks [3, 6, 7, 8] [] ?_
     apply Wc.seq
     apply Wc.block
     obtain ⟨ub, h17, h15⟩ := oc h15 fun ub h17 => (Z11 (c := Gt.c) (Gt.c_eq ub) Gt.c_len h17)
     refine Wc.s2 [hE h17] [3, 5, 6, 7, 8] [5] (o2 h17 (lenE h17 4)) ?_
     apply Wc.seq
     refine Wc.s0 [3, 5, 6, 7, 8, 14] [5] ?_
     refine Wc.ci h15 (fun _ h15 => ?_) (fun _ h15 => ?_)
     ·refine Wc.k0 [3, 5, 6, 7, 8] [5] ?_
      obtain ⟨v0, h20, h15⟩ := oc h15 fun _ => Zel
      refine Wc.k2 [{}, {}, {}, hC h20] [3, 6, 7, 8] [] (o1 h20) ?_
      refine Wc.k0 [3, 6, 7, 8] [] ?_
      exact ⟨_, Nat.lt_succ_self _, _, _, stB h15⟩
     refine Wc.ks [3, 5, 6, 7, 8] [5] ?_
     obtain ⟨uc, h22, h15⟩ := oc h15 fun _ => Zel
     refine Wc.k2 [{}, {}, {}, hC h22] [3, 6, 7, 8] [] (o1 h22) ?_
     refine Wc.k0 [3, 6, 7, 8] [] ?_
     exact ⟨_, Nat.lt_succ_self _, _, _, stB h15⟩
    refine Wc.ke [3] [] ?_
    cases h15; exact ⟨_, rfl, by kernel_rfl⟩
   rintro st ⟨u7, rfl, rfl⟩
   refine Wc.s0 [2] [] ?_
   cases h; exact Wc.ret dn
theorem Zez {k : Nat} {zo : List Gt} {r : Int} (h : Z2v k zo = some r) : FnO Tryz.prog 16 [.v (.sl (List.map Gt.c zo)) []] (.v (aI r) []) [] := (Zkn k) h

def Z80 (k : Nat) (vq : Gt) (vo : Int) : Option Gt :=
 (Z3u k vq).bind fun u1d =>
 if (!u1d) = true then
  (Z2m k vq).bind fun u2q =>
  some u2q
 else
  (Za4 k vq).bind fun u5k =>
  if ((u5k.length : Int) == 0) = true then
   (Z2m k vq).bind fun zw =>
   some zw
  else
   (Z35 k vo (-99999) 99999).bind fun u2a =>
   if (!u2a) = true then
    (Z2m k vq).bind fun u2w =>
    some u2w
   else
    (Zc k vq vo).bind fun u1u =>
    (Z3u k u1u).bind fun u2d =>
    if (!u2d) = true then
     (Z2m k vq).bind fun u54 =>
     some u54
    else
     some u1u
theorem Zh3 {k : Nat} {vq : Gt} {vo : Int} {r : Gt} (h : Z80 k vq vo = some r) : FnO Tryz.prog 117 [.v (.agg (Gt.q vq)) [], .v (aI vo) []] (.v (.agg (Gt.q r)) [(3, .app 31)]) [] := by
 refine FnO.o2 Tryz.func117 rfl fun _ _ _ _ _ _ => ?_
 unfold Z80 at h
 refine Wc.s0 [2, 3, 4] [2, 3, 4] ?_
 apply Wc.seq
 obtain ⟨u1d, h41, h⟩ := oc h fun _ => Z6a
 rcases oif h with ⟨h42, h⟩ | ⟨h42, h⟩
 ·refine Wc.s2 [{}, hC h41, {}, rT] [2, 3, 4, 19] [2, 3, 4] (o2 h41 (cb h42)) ?_
  refine Wc.cT rfl ?_
  obtain ⟨u2q, h49, h⟩ := oc h fun _ => Z69
  refine Wc.s2 [{}, hC h49, hK [21]] [4] [4] (o1 h49) ?_
  cases h; exact Wc.ret dn
 obtain ⟨u5k, h43, h⟩ := oc h fun _ => Zkg
 rcases oif h with ⟨h44, h⟩ | ⟨h44, h⟩
 ·refine Wc.s2 [{}, hC h41, {}, rF, {}, hC h43, hL u5k, {}, {}, rT] [2, 3, 4, 19] [2, 3, 4] (oC h41 (oC (cb h42) (oC h43 (oC (Z2 cI.i64 u5k) (oC (cb h44) AllP.nil))))) ?_
  refine Wc.cT rfl ?_
  obtain ⟨zw, h51, h⟩ := oc h fun _ => Z69
  refine Wc.s2 [{}, hC h51, hK [21]] [4] [4] (o1 h51) ?_
  cases h; exact Wc.ret dn
 obtain ⟨u2a, h45, h⟩ := oc h fun _ => Z4q
 refine Wc.s2 [{}, hC h41, {}, rF, {}, hC h43, hL u5k, {}, {}, rF, {}, hC h45] [2, 3, 4, 19] [2, 3, 4] (oC h41 (oC (cb h42) (oC h43 (oC (Z2 cI.i64 u5k) (oC (cb h44) (oC h45 AllP.nil)))))) ?_
 refine Wc.ci h (fun _ h => ?_) (fun _ h => ?_)
 ·obtain ⟨u2w, h54, h⟩ := oc h fun _ => Z69
  refine Wc.s2 [{}, hC h54, hK [21]] [4] [4] (o1 h54) ?_
  cases h; exact Wc.ret dn
 refine Wc.ks [2, 3, 4] [2, 3, 4] ?_
 refine Wc.zk 3 ?_
 obtain ⟨u1u, h56, h⟩ := oc h fun _ => Zaj
 refine Wc.s2 [{}, {}, hC h56, {}, hK [24]] [2, 4, 5] [2, 4, 5] (o1 h56) ?_
 apply Wc.seq
 obtain ⟨u2d, h58, h⟩ := oc h fun _ => Z6a
 refine Wc.s2 [{}, hC h58] [2, 4, 5, 27] [2, 4, 5] (o1 h58) ?_
 refine Wc.ci h (fun _ h => ?_) (fun _ h => ?_)
 ·obtain ⟨u54, h61, h⟩ := oc h fun _ => Z69
  refine Wc.s2 [{}, hC h61, hK [29]] [4] [4] (o1 h61) ?_
  cases h; exact Wc.ret dn
 refine Wc.ks [4, 5] [4, 5] ?_
 refine Wc.s1 [hM 1, hK [30]] [4] [4] ?_
 cases h; exact Wc.ret dn

def Z2i (k : Nat) (v6 : Gs) (u04 : Gs) : Option (Gs × Bool) :=
 (Z1b k u04 (v6.gU.gd.length : Int) u04.gk).bind fun u6a =>
 some (u6a, false)
def Z10 (k : Nat) (v6 : Gs) (u6b : Gt) (u0z : Gt) : Option (Gs × Bool) :=
 (Z3u k u6b).bind fun u6c =>
 if u6c = true then
  (Z3u k u0z).bind fun u3n =>
  if u3n = true then
   (Z7 k (Gs.mk v6.gDb (Gu.mk v6.gU.ge v6.gU.gd 0) v6.gk v6.gl v6.gw v6.gh v6.gc v6.gf v6.gv) u6b u0z).bind fun u4e =>
   if u4e.2 = true then
    some (u4e.1, true)
   else
    Z2i k v6 u4e.1
  else
   Z2i k v6 (Gs.mk v6.gDb (Gu.mk v6.gU.ge v6.gU.gd 0) v6.gk v6.gl v6.gw v6.gh v6.gc v6.gf v6.gv)
 else
  Z2i k v6 (Gs.mk v6.gDb (Gu.mk v6.gU.ge v6.gU.gd 0) v6.gk v6.gl v6.gw v6.gh v6.gc v6.gf v6.gv)
theorem Z56 {k : Nat} {v6 : Gs} {u6b : Gt} {u0z : Gt} {r : Gs × Bool} (h : Z10 k v6 u6b u0z = some r) : FnO Tryz.prog 91 [.p (Gs.k v6) (Gs.h v6), .v (.agg (Gt.q u6b)) [], .v (.agg (Gt.q u0z)) []] (.v (.bool r.2) []) [(0, .p (Gs.k r.1) (Gs.h r.1))] := by
 refine FnO.o2 Tryz.func91 rfl fun _ _ _ _ _ _ => ?_
 unfold Z10 at h
 refine Wc.s0 [0, 4, 5] [4, 5, 1000000] ?_
 refine Wc.s2 [{}, {}, {}, {}, {}, hL v6.gU.gd] [0, 4, 5, 7] [4, 5, 1000000] (o1 (Z2 cI.i64 v6.gU.gd)) ?_
 refine Wc.s0 [0, 4, 5, 7] [4, 5, 1000000] ?_
 refine Wc.seqJ (fun st => ∃ (u04 : Gs), st = ⟨[tP 0 1000000, tI 7 (v6.gU.gd.length : Int)], [(1000000, .cells (Gs.k u04) (Gs.h u04))], []⟩ ∧ Z2i k v6 u04 = some r) ?_ ?_
 ·apply Wc.seq
  obtain ⟨u6c, h66, h⟩ := oc h fun _ => Z6a
  rcases oif h with ⟨h67, h⟩ | ⟨h67, h⟩
  ·obtain ⟨u3n, h68, h⟩ := oc h fun _ => Z6a
   rcases oif h with ⟨h69, h⟩ | ⟨h69, h⟩
   ·obtain ⟨u4e, h70, h⟩ := oc h fun u4e h70 => (Zxe (fun hv => Zf0 (hv0 := hv) h70))
    refine Wc.dk hmix [{}, hC h66, rT, {}, hC h68, {}, rT, {}, {}, {}, {}, {}, hC h70] [] [0, 7, 31] [1000000] [] (oC h66 (oC (cb h67) (oC h68 (oC (cb h69) (oC h70 AllP.nil))))) ?_
    refine Wc.ci h (fun _ h => ?_) (fun _ h => ?_)
    ·refine Wc.s0 [6] [1000000] ?_
     cases h; exact Wc.ret dn
    refine Wc.ks [0, 7] [1000000] ?_
    exact ⟨_, stB h⟩
   refine Wc.dk hmix [{}, hC h66, rT, {}, hC h68, {}, rF] [] [0, 7, 31] [1000000] [] (o4 h66 (cb h67) h68 (cb h69)) ?_
   refine Wc.cF rfl ?_
   refine Wc.ks [0, 7] [1000000] ?_
   exact ⟨_, stB h⟩
  refine Wc.dk hmix [{}, hC h66, rF] [] [0, 7, 31] [1000000] [] (o2 h66 (cb h67)) ?_
  refine Wc.cF rfl ?_
  refine Wc.ks [0, 7] [1000000] ?_
  exact ⟨_, stB h⟩
 rintro st ⟨u04, rfl, h⟩
 obtain ⟨u6a, h64, h⟩ := oc h fun _ => Z6t
 refine Wc.s2 [{}, {}, {}, {}, {}, {}, hC h64] [] [1000000] (o1 h64) ?_
 refine Wc.s0 [6] [1000000] ?_
 cases h; exact Wc.ret dn

def Z1q (k : Nat) (z6 : Gs) (zu : Gt) (v7 : Int) : Option Gs :=
 some (Gs.mk z6.gDb z6.gU z6.gk z6.gl z6.gw (Gf.mk 1 zu v7 Ga.nil z6.gh) z6.gc z6.gf z6.gv)
theorem Z2l {k : Nat} {z6 : Gs} {zu : Gt} {v7 : Int} {r : Gs} (h : Z1q k z6 zu v7 = some r) : FnO Tryz.prog 17 [.p (Gs.k z6) (Gs.h z6), .v (.agg (Gt.q zu)) [], .v (aI v7) []] (.v (.tup []) []) [(0, .p (Gs.k r) (Gs.h r))] := by
 refine FnO.o2 Tryz.func17 rfl fun _ _ _ _ _ _ => ?_
 unfold Z1q at h
 refine Wc.s0 [0, 2, 4] [4, 1000000] ?_
 refine Wc.dk hmix [{}, {}, {}, {}, {}, {}, {}, { op := [12] }, hM 3] [] [] [1000000] [] (o1 (Gf.v_leaf z6.gh)) ?_
 cases h; exact ⟨(by first | exact .inl rfl | exact .inr rfl), by kernel_rfl, by kernel_rfl⟩

def Z2f (k : Nat) (u1r : Gc) (u3 : Gs) (vx : Gs × Bool) (vk : Gs) : Option (Out (Gs × Bool) Gs) :=
 (Z80 k u1r.gD u3.gk).bind fun vq =>
 (Z1q k vk vq (vx.1.gc.length : Int)).bind fun u6 =>
 some (.ret (u6, true))
def Z19 (k : Nat) (zb : List Gc) (vp : Gt) : Nat → Int → Gs → Option (Out (Gs × Bool) Gs)
 | 0, _, _ => none
 | m + 1, um, u3 =>
  if (decide (um < (zb.length : Int))) = true then
   (at' zb um).bind fun u1r =>
   (Z2v k [u1r.gA, u1r.gD]).bind fun uc =>
   (Z20 k u3 (wr.i64 (u3.gk + uc))).bind fun u3m =>
   (Z80 k u1r.gA u3.gk).bind fun uk =>
   (Z10 k u3m.1 vp uk).bind fun vx =>
   if (!vx.2) = true then
    (Z1b k vx.1 (u3.gU.gd.length : Int) u3.gk).bind fun vr =>
    Z19 k zb vp m (wr.i64 (um + 1)) vr
   else
    if (!u3m.2) = true then
     (Z1g k vx.1 1).bind fun vc =>
     some (.ret (vc, true))
    else
     if (decide ((wr.i64 (um + 1)) < (zb.length : Int))) = true then
      if 0 ≤ (wr.i64 (um + 1)) ∧ (wr.i64 (um + 1)) ≤ (zb.length : Int) ∧ (zb.length : Int) ≤ (zb.length : Int) then
       if (sub3 zb (wr.i64 (um + 1)) (zb.length : Int)).isEmpty = false then
        if vx.1.gc.length + [Gp.mk (vx.1.gc.length : Int) (u3.gU.gd.length : Int) u3.gk Gf.nil vp (sub3 zb (wr.i64 (um + 1)) (zb.length : Int)) vx.1.gh].length ≤ 1073741824 then
         Z2f k u1r u3 vx (Gs.mk vx.1.gDb vx.1.gU vx.1.gk vx.1.gl vx.1.gw vx.1.gh (vx.1.gc ++ [Gp.mk (vx.1.gc.length : Int) (u3.gU.gd.length : Int) u3.gk Gf.nil vp (sub3 zb (wr.i64 (um + 1)) (zb.length : Int)) vx.1.gh]) vx.1.gf vx.1.gv)
        else none
       else none
      else none
     else
      Z2f k u1r u3 vx vx.1
  else
   some (.done u3)
def Z1v (k : Nat) (v2 : Gs) (vp : Gt) (zb : List Gc) : Option (Gs × Bool) :=
 (Z19 k zb vp k 0 v2).bind fun out1 => match out1 with
 | .ret r => some r
 | .done v1 =>
  some (v1, false)
theorem Zbt {k : Nat} {v2 : Gs} {vp : Gt} {zb : List Gc} {r : Gs × Bool} (h : Z1v k v2 vp zb = some r) : FnO Tryz.prog 86 [.p (Gs.k v2) (Gs.h v2), .v (.agg (Gt.q vp)) [], .v (.sl (List.map Gc.c zb)) []] (.v (.bool r.2) []) [(0, .p (Gs.k r.1) (Gs.h r.1))] := by
 refine FnO.o2 Tryz.func86 rfl fun _ _ _ _ _ _ => ?_
 unfold Z1v at h
 refine Wc.s0 [0, 2, 4] [4, 1000000] ?_
 apply Wc.seq
 refine Wc.s2 [{}, hL zb] [0, 2, 4, 15, 16, 17] [4, 1000000] (o1 (Z2 Gc.c zb)) ?_
 obtain ⟨out1, h22, h⟩ := Z2d h
 refine Wc.lastJ (fun st => ∃ (v1 : Gs), out1 = .done v1 ∧ st = ⟨[], [(1000000, .cells (Gs.k v1) (Gs.h v1))], []⟩) ?_ ?_
 ·apply Wc.block
  refine Wc.loop (fun m st => ∃ (um : Int) (u3 : Gs), st = ⟨[tP 0 1000000, tV 2 (.sl (List.map Gc.c zb)), tP 4 4, tV 15 (.sl (List.map Gc.c zb)), tI 16 (zb.length : Int), tI 17 um], [bC 4 (Gt.q vp), (1000000, .cells (Gs.k u3) (Gs.h u3))], []⟩ ∧ Z19 k zb vp m um u3 = some out1) ?_ k ⟨_, _, stB h22⟩
  rintro m st ⟨um, u3, rfl, h22⟩
  rcases m with _ | m
  ·exact (Zk h22).elim
  refine Wc.s0 [0, 2, 4, 15, 16, 17, 18] [4, 1000000] ?_
  apply Wc.seq
  refine Wc.ci h22 (fun _ h22 => ?_) (fun _ h22 => ?_)
  ·refine Wc.ks [0, 2, 4, 15, 16, 17] [4, 1000000] ?_
   apply Wc.seq
   apply Wc.block
   obtain ⟨u1r, h24, h22⟩ := oc h22 fun u1r h24 => (Z11 (c := Gc.c) (Gc.c_eq u1r) Gc.c_len h24)
   refine Wc.s2 [{}, hE h24] [0, 2, 4, 7, 8, 15, 16, 17] [4, 8, 1000000] (o2 h24 (lenE h24 9)) ?_
   apply Wc.seq
   refine Wc.dk hmix [{}, {}, {}, {}, {}, hL u3.gU.gd] [] [0, 2, 4, 7, 8, 9, 10, 15, 16, 17] [4, 8, 1000000] [] (o1 (Z2 cI.i64 u3.gU.gd)) ?_
   have h26 := (Z1l (c := Gt.c) (x := u1r.gA) (Gt.c_eq u1r.gA) (Z1l (c := Gt.c) (x := u1r.gD) (Gt.c_eq u1r.gD) (Z2s Gt.c)))
   obtain ⟨uc, h27, h22⟩ := oc h22 fun _ => Zez
   refine Wc.s2 [{}, {}, {}, {}, hB h26, hC h27] [0, 2, 4, 7, 8, 9, 10, 11, 15, 16, 17] [4, 8, 1000000] (o2 h26 h27) ?_
   obtain ⟨u3m, h29, h22⟩ := oc h22 fun _ => Z6g
   refine Wc.s2 [{}, {}, {}, {}, hC h29] [0, 2, 4, 7, 8, 9, 10, 12, 15, 16, 17] [4, 8, 1000000] (o1 h29) ?_
   apply Wc.seq
   apply Wc.seq
   obtain ⟨uk, h31, h22⟩ := oc h22 fun _ => Zh3
   obtain ⟨vx, h32, h22⟩ := oc h22 fun _ => Z56
   refine Wc.dk hmix [{}, {}, {}, {}, {}, hC h31, hC h32] [] [0, 2, 4, 7, 8, 9, 10, 12, 15, 16, 17, 50] [4, 8, 1000000] [] (o2 h31 h32) ?_
   refine Wc.ci h22 (fun _ h22 => ?_) (fun _ h22 => ?_)
   ·obtain ⟨vr, h36, h22⟩ := oc h22 fun _ => Z6t
    refine Wc.s2 [{}, {}, {}, hC h36] [0, 2, 4, 15, 16, 17] [4, 1000000] (o1 h36) ?_
    refine Wc.exit ?_
    refine Wc.k0 [0, 2, 4, 15, 16, 17] [4, 1000000] ?_
    exact ⟨_, Nat.lt_succ_self _, _, _, stB h22⟩
   refine Wc.ks [0, 2, 4, 7, 8, 9, 10, 12] [4, 8, 1000000] ?_
   apply Wc.seq
   refine Wc.s0 [0, 2, 4, 7, 8, 9, 10, 56] [4, 8, 1000000] ?_
   refine Wc.ci h22 (fun _ h22 => ?_) (fun _ h22 => ?_)
   ·obtain ⟨vc, h39, h22⟩ := oc h22 fun _ => Z2a
    refine Wc.s2 [{}, hC h39] [] [1000000] (o1 h39) ?_
    refine Wc.s0 [6] [1000000] ?_
    cases h22; cases h; exact Wc.ret dn
   refine Wc.ks [0, 2, 4, 7, 8, 9, 10] [4, 8, 1000000] ?_
   refine Wc.s2 [{}, {}, {}, {}, hL vx.1.gc] [0, 2, 4, 7, 8, 9, 10, 13] [4, 8, 1000000] (o1 (Z2 Gp.c vx.1.gc)) ?_
   refine Wc.seqJ (fun st => ∃ (vk : Gs), st = ⟨[tP 0 1000000, tP 8 8, tI 10 u3.gk, tI 13 (vx.1.gc.length : Int)], [bC 8 (Gc.q u1r), (1000000, .cells (Gs.k vk) (Gs.h vk))], []⟩ ∧ Z2f k u1r u3 vx vk = some out1) ?_ ?_
   ·refine Wc.s2 [{}, {}, {}, hL zb] [0, 2, 4, 7, 8, 9, 10, 13, 68] [4, 8, 1000000] (o1 (Z2 Gc.c zb)) ?_
    refine Wc.ci h22 (fun _ h22 => ?_) (fun _ h22 => ?_)
    ·apply Wc.seq
     obtain ⟨h46, h22⟩ := Z4 h22
     obtain ⟨h47, h22⟩ := Z4 h22
     refine Wc.dk hmix [{}, {}, {}, {}, {}, {}, {}, { v := some (.sl (List.map Gc.c (sub3 zb (wr.i64 (um + 1)) (zb.length : Int)))) }, {}, {}, {}, {}, { op := [80] }, { md := 3, re := some (Gp.v (Gp.mk (vx.1.gc.length : Int) (u3.gU.gd.length : Int) u3.gk Gf.nil vp (sub3 zb (wr.i64 (um + 1)) (zb.length : Int)) vx.1.gh)) }] [] [0, 8, 10, 13, 14] [8, 1000000] [] (o3 (Zro (c := Gc.c) Gc.c_len h46) (Gf.v_leaf vx.1.gh) ((Gp.v_ok (p := Gp.mk (vx.1.gc.length : Int) (u3.gU.gd.length : Int) u3.gk Gf.nil vp (sub3 zb (wr.i64 (um + 1)) (zb.length : Int)) vx.1.gh) h47).symm)) ?_
     have h48 := (cR Gp.c [Gp.mk (vx.1.gc.length : Int) (u3.gU.gd.length : Int) u3.gk Gf.nil vp (sub3 zb (wr.i64 (um + 1)) (zb.length : Int)) vx.1.gh])
     obtain ⟨h49, h22⟩ := Z4 h22
     have h50 := (Z30 Gp.c vx.1.gc [Gp.mk (vx.1.gc.length : Int) (u3.gU.gd.length : Int) u3.gk Gf.nil vp (sub3 zb (wr.i64 (um + 1)) (zb.length : Int)) vx.1.gh])
     refine Wc.k3 [{}, {}, {}, {}, hM 1, {}, hB h48, { hB h50 with tk := [87], md := 1 }, {}, {}, hK [90]] [.so 1000000] [0, 8, 10, 13] [8, 1000000] [] (oC h48 (oA h50 Gp.c_leaf Gp.c_len h49 AllP.nil)) ?_
     exact ⟨_, stB h22⟩
    refine Wc.ks [0, 8, 10, 13] [8, 1000000] ?_
    exact ⟨_, stB h22⟩
   rintro st ⟨vk, rfl, h22⟩
   obtain ⟨vq, h41, h22⟩ := oc h22 fun _ => Zh3
   obtain ⟨u6, h42, h22⟩ := oc h22 fun _ => Z2l
   refine Wc.s2 [{}, {}, {}, {}, hC h41, {}, hC h42] [] [1000000] (o2 h41 h42) ?_
   refine Wc.s0 [6] [1000000] ?_
   cases h22; cases h; exact Wc.ret dn
  refine Wc.ke [] [1000000] ?_
  cases h22; exact ⟨_, rfl, by kernel_rfl⟩
 rintro st ⟨v1, rfl, rfl⟩
 refine Wc.s0 [6] [1000000] ?_
 cases h; exact Wc.ret dn

def Z13 (k : Nat) : Nat → Gs → Option (Out Gs Gs)
 | 0, _ => none
 | m + 1, ua =>
  if (!ua.gv) = true then
   if ((ua.gc.length : Int) == 0) = true then
    (Z1g k ua 0).bind fun zk =>
    some (.ret zk)
   else
    (at' ua.gc (wr.i64 ((ua.gc.length : Int) - 1))).bind fun zl =>
    if 0 ≤ (wr.i64 ((ua.gc.length : Int) - 1)) ∧ (wr.i64 ((ua.gc.length : Int) - 1)) ≤ (ua.gc.length : Int) then
     (Z1b k (Gs.mk ua.gDb ua.gU ua.gk ua.gl ua.gw ua.gh (ua.gc.take ((wr.i64 ((ua.gc.length : Int) - 1))).toNat) ua.gf ua.gv) zl.gL zl.gk).bind fun u0 =>
     if (!zl.gF.isEmpty) = true then
      if zl.gF.isEmpty = false then
       if zl.gF.isEmpty = false then
        (Z1v k (Gs.mk u0.gDb u0.gU u0.gk u0.gl u0.gw zl.gM u0.gc u0.gf u0.gv) (Gt.mk zl.gN.gi zl.gN.gn zl.gN.gj zl.gN.ga) zl.gF).bind fun u84 =>
        if u84.2 = true then
         some (.ret u84.1)
        else
         Z13 k m u84.1
       else none
      else none
     else
      if (!zl.gh.isNil) = true then
       some (.ret (Gs.mk u0.gDb u0.gU u0.gk u0.gl u0.gw zl.gh u0.gc u0.gf u0.gv))
      else
       Z13 k m u0
    else none
  else
   some (.done ua)
def Z17 (k : Nat) (u2 : Gs) : Option Gs :=
 (Z13 k k u2).bind fun out1 => match out1 with
 | .ret r => some r
 | .done zx =>
  some zx
theorem Z8g {k : Nat} {u2 : Gs} {r : Gs} (h : Z17 k u2 = some r) : FnO Tryz.prog 57 [.p (Gs.k u2) (Gs.h u2)] (.v (.tup []) []) [(0, .p (Gs.k r) (Gs.h r))] := by
 refine FnO.o2 Tryz.func57 rfl fun _ _ _ _ _ _ => ?_
 unfold Z17 at h
 obtain ⟨out1, h11, h⟩ := Z2d h
 refine Wc.lastJ (fun st => ∃ (zx : Gs), out1 = .done zx ∧ st = ⟨[], [(1000000, .cells (Gs.k zx) (Gs.h zx))], []⟩) ?_ ?_
 ·apply Wc.block
  refine Wc.loop (fun m st => ∃ (ua : Gs), st = ⟨[tP 0 1000000], [(1000000, .cells (Gs.k ua) (Gs.h ua))], []⟩ ∧ Z13 k m ua = some out1) ?_ k ⟨_, stB h11⟩
  rintro m st ⟨ua, rfl, h11⟩
  rcases m with _ | m
  ·exact (Zk h11).elim
  apply Wc.seq
  refine Wc.s0 [0, 7] [1000000] ?_
  refine Wc.ci h11 (fun _ h11 => ?_) (fun _ h11 => ?_)
  ·refine Wc.ks [0] [1000000] ?_
   apply Wc.block
   apply Wc.seq
   refine Wc.s2 [{}, {}, {}, {}, hL ua.gc] [0, 13] [1000000] (o1 (Z2 Gp.c ua.gc)) ?_
   refine Wc.ci h11 (fun _ h11 => ?_) (fun _ h11 => ?_)
   ·obtain ⟨zk, h14, h11⟩ := oc h11 fun _ => Z2a
    refine Wc.s2 [{}, hC h14] [] [1000000] (o1 h14) ?_
    refine Wc.ret ?_
    cases h11
    cases h; exact ⟨(by first | exact .inl rfl | exact .inr rfl), by kernel_rfl, by kernel_rfl⟩
   refine Wc.ks [0] [1000000] ?_
   apply Wc.seq
   obtain ⟨zl, h16, h11⟩ := Z2d h11
   refine Wc.dk hmix [{}, {}, {}, {}, {}, {}, {}, {}, hL ua.gc, {}, {}, { v := some (Gp.v zl) }] [] [0, 2] [1000000] [] (o3 (Z2 Gp.c ua.gc) (Zhj (c := Gp.c) Gp.c_len h16) (Zp2 (sz := 1) (off := 0) (s := 1) (ag := false) (v := Gp.v zl) (c := Gp.c) rfl (Z5y h16).2 rfl (Nat.le_of_ble_eq_true rfl) rfl)) ?_
   apply Wc.seq
   obtain ⟨h17, h11⟩ := Z4 h11
   refine Wc.meet hmix [{}, {}, {}, {}, {}, {}, {}, {}, {}, hL ua.gc, {}, { c := some (List.map Gp.c (ua.gc.take ((wr.i64 ((ua.gc.length : Int) - 1))).toNat)), tk := [32], fx := [.pl 32] }, {}, {}, hK [39]] [] [] [0, 2, 28, 29, 30, 31, 32, 33, 34, 35, 36, 37, 38, 39, 40, 41] [1000000] [] [.so 1000000] [0, 2] [1000000] [] ⟨[tP 0 1000000, tV 2 (Gp.v zl)], [(1000000, .cells (Gs.k ua) [(2, .ex 31 false (List.map Gt.c ua.gU.ge)), (3, .ex 3 false (List.map cI.i64 ua.gU.gd)), (9, .ex 78 false (List.map Gp.c (ua.gc.take ((wr.i64 ((ua.gc.length : Int) - 1))).toNat))), (10, .ex 31 false (List.map Gt.c ua.gf.gp))])], []⟩ _ [0, 1, 2, 32, 3, 33, 6, 34, 96, 7, 35, 97, 14, 38, 98, 224, 15, 39, 99, 225, 30, 46, 102, 226, 480, 31, 47, 103, 227, 481, 62, 110, 230, 482, 992, 63, 111, 231, 483, 993, 126, 238, 486, 994, 2016, 127, 239, 487, 995, 2017, 254, 494, 998, 2018, 255, 495, 999, 2019, 510, 1006, 2022, 511, 1007, 2023, 1022, 2030, 1023, 2031, 2046, 2047, 4094, 4095, 8191, 16383, 32767] (by kernel_rfl) (by kernel_rfl) (by as_aux_lemma => kernel_rfl) (by kernel_rfl) (by kernel_rfl) (.cons .nil (.cons .nil (.cons .nil (.cons .nil (.cons .nil (.cons .nil (.cons .nil (.cons .nil (.cons .nil (.cons (oC (Z2 Gp.c ua.gc) AllP.nil) (.cons .nil (.cons (oC (Zgf Gp.c ua.gc (wr.i64 ((ua.gc.length : Int) - 1))) (oC (Zdv (c := Gp.c) h17) AllP.nil)) (.cons .nil (.cons .nil (.cons .nil .nil))))))))))))))) ?_
   apply Wc.seq
   obtain ⟨u0, h18, h11⟩ := oc h11 fun _ => Z6t
   refine Wc.dk hmix [{}, {}, {}, {}, {}, {}, {}, {}, {}, hC h18] [] [0, 2] [1000000] [] (o3 (Gp.len zl 1 1) (Gp.len zl 2 1) h18) ?_
   apply Wc.block
   refine Wc.s2 [{}, {}, {}, {}, { v := some (.bool (!zl.gF.isEmpty)) }] [0, 2, 52] [1000000] (o2 (Gp.len zl 8 1) (GLeft.nil_no zl.gF)) ?_
   refine Wc.ci h11 (fun _ h11 => ?_) (fun _ h11 => ?_)
   ·obtain ⟨h21, h11⟩ := Z4 h11
    refine Wc.s2 [{}, {}, { v := some (.vptr (Gp.fl zl)) }, {}, {}, {}, {}, { op := [62] }] [0, 2] [1000000] (o3 (Gp.v_ok h21) (Gp.lenf zl 18 1) (Gf.v_leaf zl.gM)) ?_
    apply Wc.seq
    obtain ⟨h22, h11⟩ := Z4 h11
    obtain ⟨u84, h23, h11⟩ := oc h11 fun _ => Zbt
    refine Wc.dk hmix [{}, {}, {}, {}, {}, {}, { v := some (.vptr (Gp.fl zl)) }, {}, {}, hC h23] [] [0, 74] [1000000] [] (o4 (Gp.len zl 4 4) (Gp.v_ok h22) (Gp.lenf zl 8 1) h23) ?_
    refine Wc.ci h11 (fun _ h11 => ?_) (fun _ h11 => ?_)
    ·refine Wc.fk [] [] [1000000] [] ?_
     refine Wc.ret ?_
     cases h11
     cases h; exact ⟨(by first | exact .inl rfl | exact .inr rfl), by kernel_rfl, by kernel_rfl⟩
    refine Wc.ks [0] [1000000] ?_
    exact ⟨_, Nat.lt_succ_self _, _, stB h11⟩
   refine Wc.s2 [{}, {}, {}, {}, { v := some (.bool (!zl.gh.isNil)) }] [0, 2, 75] [1000000] (o2 (Gp.len zl 3 1) (Gf.nil_no zl.gh)) ?_
   refine Wc.ci h11 (fun _ h11 => ?_) (fun _ h11 => ?_)
   ·refine Wc.s2 [{}, {}, {}, {}, {}, {}, {}, { op := [85] }] [] [1000000] (o2 (Gp.len zl 3 1) (Gf.v_leaf zl.gh)) ?_
    refine Wc.ret ?_
    cases h11
    cases h; exact ⟨(by first | exact .inl rfl | exact .inr rfl), by kernel_rfl, by kernel_rfl⟩
   refine Wc.ks [0] [1000000] ?_
   exact ⟨_, Nat.lt_succ_self _, _, stB h11⟩
  refine Wc.ke [] [1000000] ?_
  cases h11; exact ⟨_, rfl, by kernel_rfl⟩
 rintro st ⟨zx, rfl, rfl⟩
 cases h; exact ⟨(by first | exact .inl rfl | exact .inr rfl), by kernel_rfl, by kernel_rfl⟩

def Z3r (k : Nat) (vv : Gt) (vj : ByteArray) (vg : Int) : Option Bool :=
 if (vv.gi == 4) = true then
  if (sEq vv.gn vj) = true then
   some ((vv.ga.length : Int) == vg)
  else
   some false
 else
  some false
theorem Zak {k : Nat} {vv : Gt} {vj : ByteArray} {vg : Int} {r : Bool} (h : Z3r k vv vj vg = some r) : FnO Tryz.prog 88 [.v (.agg (Gt.q vv)) [], .v (.str vj) [], .v (aI vg) []] (.v (.bool r) []) [] := by
 refine FnO.o2 Tryz.func88 rfl fun _ _ _ _ _ _ => ?_
 unfold Z3r at h
 refine Wc.s0 [1, 2, 3] [3] ?_
 rcases oif h with ⟨h3, h⟩ | ⟨h3, h⟩
 ·rcases oif h with ⟨h4, h⟩ | ⟨h4, h⟩
  ·refine Wc.s2 [{}, {}, {}, rT, {}, {}, {}, {}, {}, rT, {}, {}, hL vv.ga] [6] [] (o3 (cb h3) (cb h4) (Z2 Gt.c vv.ga)) ?_
   cases h; exact Wc.ret dn
  refine Wc.s2 [{}, {}, {}, rT, {}, {}, {}, {}, {}, rF] [6] [] (o2 (cb h3) (cb h4)) ?_
  cases h; exact Wc.ret dn
 refine Wc.s2 [{}, {}, {}, rF] [6] [] (o1 (cb h3)) ?_
 cases h; exact Wc.ret dn

def Z1e (k : Nat) (ua : Gs) (u4f : Gf) : Option (Gs × GNp) :=
 if ua.gc.length + [Gp.mk (ua.gc.length : Int) (ua.gU.gd.length : Int) ua.gk u4f (Gt.mk 0 (bs []) 0 []) [] Gf.nil].length ≤ 1073741824 then
  some (Gs.mk ua.gDb ua.gU ua.gk ua.gl ua.gw ua.gh (ua.gc ++ [Gp.mk (ua.gc.length : Int) (ua.gU.gd.length : Int) ua.gk u4f (Gt.mk 0 (bs []) 0 []) [] Gf.nil]) ua.gf ua.gv, GNp.mk (ua.gc.length : Int) (ua.gU.gd.length : Int) ua.gk u4f)
 else none
theorem Z7w {k : Nat} {ua : Gs} {u4f : Gf} {r : Gs × GNp} (h : Z1e k ua u4f = some r) : FnO Tryz.prog 63 [.p (Gs.k ua) (Gs.h ua), .v (Gf.v u4f) []] (.q 0 9 [aI r.2.gAt, aI r.2.gL, aI r.2.gk, Gf.v r.2.gh, aI 0, .str (bs []), aI 0, .sl (List.map Gt.c []), .nil false, aI 0, .str (bs []), aI 0, .sl (List.map Gt.c []), aI 0, .str (bs []), aI 0, .sl (List.map Gt.c []), aI 0, Gf.v Gf.nil] []) [(0, .p (Gs.k r.1) (Gs.h r.1))] := by
 refine FnO.o2 Tryz.func63 rfl fun _ _ _ _ _ _ => ?_
 unfold Z1e at h
 refine Wc.s0 [0, 1] [1000000] ?_
 apply Wc.seq
 refine Wc.dk hmix [{}, {}, {}, {}, hL ua.gc, {}, {}, {}, {}, {}, hL ua.gU.gd, {}, {}, {}, {}, {}, { io := [8], op := [21] }, hK [22]] [] [0, 5] [23, 1000000] [] (o3 (Z2 Gp.c ua.gc) (Z2 cI.i64 ua.gU.gd) (Gf.v_leaf u4f)) ?_
 refine Wc.lk 23 9 ?_
 have h6 := (cR Gp.c [Gp.mk (ua.gc.length : Int) (ua.gU.gd.length : Int) ua.gk u4f (Gt.mk 0 (bs []) 0 []) [] Gf.nil])
 obtain ⟨h7, h⟩ := Z4 h
 have h8 := (Z30 Gp.c ua.gc [Gp.mk (ua.gc.length : Int) (ua.gU.gd.length : Int) ua.gk u4f (Gt.mk 0 (bs []) 0 []) [] Gf.nil])
 refine Wc.s3 [{}, {}, {}, {}, hM 1, {}, hB h6, { hB h8 with tk := [28], md := 1 }, {}, {}, hK [31]] [.so 1000000] [5] [23, 1000000] [] (oC h6 (oA h8 Gp.c_leaf Gp.c_len h7 AllP.nil)) ?_
 refine Wc.s0 [4] [23, 1000000] ?_
 cases h; exact Wc.ret dn

def Ze0 (k : Nat) (uo : Int) (um : Int) (u6d : List Int) : Option Int :=
 (Z24 k u6d uo).bind fun uy =>
 some (wr.i64 (um + uy))
theorem Ztp {k : Nat} {uo : Int} {um : Int} {u6d : List Int} {r : Int} (h : Ze0 k uo um u6d = some r) : FnO Tryz.prog 118 [.v (aI uo) [], .v (.vptr [aI um]) [], .v (.vptr [.sl (List.map cI.i64 u6d)]) []] (.v (aI r) []) [] := by
 refine FnO.o2 Tryz.func118 rfl fun _ _ _ _ _ _ => ?_
 unfold Ze0 at h
 refine Wc.s0 [0, 1, 2] [] ?_
 apply Wc.seq
 obtain ⟨uy, h14, h⟩ := oc h fun _ => Z76
 refine Wc.dk hmix [{}, {}, {}, hC h14] [] [4] [] [] (o3 (Zhi 1 [aI um]) (Zhi 1 [.sl (List.map cI.i64 u6d)]) h14) ?_
 cases h; exact Wc.ret dn

def Z21 (k : Nat) (Z2r : Gt → Int → (List Int) → Option Gt) (uk : Gt) (up : Int) (u0t : List Int) : Nat → Int → Gt → Option (Out Gt Gt)
 | 0, _, _ => none
 | m + 1, vn, vq =>
  if (decide (vn < (uk.ga.length : Int))) = true then
   (at' uk.ga vn).bind fun vu =>
   (Z2r vu up u0t).bind fun vw =>
   if vq.ga.length + [vw].length ≤ 1073741824 then
    Z21 k Z2r uk up u0t m (wr.i64 (vn + 1)) (Gt.mk vq.gi vq.gn vq.gj (vq.ga ++ [vw]))
   else none
  else
   some (.done vq)
def Z22 (k : Nat) (Z2r : Gt → Int → (List Int) → Option Gt) (uk : Gt) (up : Int) (u0t : List Int) (zv : Gt) : Option Gt :=
 (Z21 k Z2r uk up u0t k 0 zv).bind fun out2 => match out2 with
 | .ret r => some r
 | .done ve =>
  some ve
mutual
def Zh : Nat → Gt → Int → (List Int) → Option Gt
 | 0, _, _, _ => none
 | k + 1, uk, up, u0t =>
  if (uk.gi == 1) = true then
   (Ze0 k uk.gj up u0t).bind fun u3o =>
   Z22 k (Zh k) uk up u0t (Gt.mk uk.gi uk.gn u3o [])
  else
   Z22 k (Zh k) uk up u0t (Gt.mk uk.gi uk.gn uk.gj [])
end
theorem Z99 : ∀ k : Nat, (∀ {uk : Gt} {up : Int} {u0t : List Int} {r : Gt}, Zh k uk up u0t = some r → FnO Tryz.prog 39 [.v (.agg (Gt.q uk)) [], .v (.func 118 [.vptr [aI up], .vptr [.sl (List.map cI.i64 u0t)]]) []] (.v (.agg (Gt.q r)) [(3, .app 31)]) []) := by
 intro k
 induction k with
 | zero =>
  ·intro uk up u0t r h
   exact (Zk (by rw [Zh] at h; exact h)).elim
 | succ k ih =>
  have Z9j := @ih
  ·intro uk up u0t r h
   rw [Zh] at h
   refine FnO.o2 Tryz.func39 rfl fun _ _ _ _ _ _ => ?_
   refine Wc.s0 [1, 2, 4] [2, 4] ?_
   refine Wc.s0 [1, 2, 4, 5] [2, 4, 5] ?_
   refine Wc.s0 [1, 2, 4, 5] [2, 4, 5] ?_
   refine Wc.seqJ (fun st => ∃ (zv : Gt), st = ⟨[tV 1 (.func 118 [.vptr [aI up], .vptr [.sl (List.map cI.i64 u0t)]]), tP 2 2, tP 4 4, tP 5 5], [bC 2 (Gt.q uk), bX0 4, (5, .cells (Gt.q zv) [(3, .app 31)])], []⟩ ∧ Z22 k (Zh k) uk up u0t zv = some r) ?_ ?_
   ·refine Wc.s0 [1, 2, 4, 5, 12] [2, 4, 5] ?_
    refine Wc.ci h (fun _ h => ?_) (fun _ h => ?_)
    ·obtain ⟨u3o, h35, h⟩ := oc h fun _ => Ztp
     refine Wc.k2 [{}, {}, {}, hC h35] [1, 2, 4, 5] [2, 4, 5] (o1 h35) ?_
     exact ⟨_, stB h⟩
    refine Wc.ks [1, 2, 4, 5] [2, 4, 5] ?_
    exact ⟨_, stB h⟩
   rintro st ⟨zv, rfl, h⟩
   apply Wc.seq
   refine Wc.s2 [{}, {}, hL uk.ga] [1, 4, 5, 19, 20, 21] [4, 5] (o1 (Z2 Gt.c uk.ga)) ?_
   obtain ⟨out2, h25, h⟩ := Z2d h
   refine Wc.lastJ (fun st => ∃ (ve : Gt), out2 = .done ve ∧ st = ⟨[tP 4 4, tP 5 5], [bX0 4, (5, .cells (Gt.q ve) [(3, .app 31)])], []⟩) ?_ ?_
   ·apply Wc.block
    refine Wc.loop (fun m st => ∃ (vn : Int) (vq : Gt), st = ⟨[tV 1 (.func 118 [.vptr [aI up], .vptr [.sl (List.map cI.i64 u0t)]]), tP 4 4, tP 5 5, tV 19 (.sl (List.map Gt.c uk.ga)), tI 20 (uk.ga.length : Int), tI 21 vn], [bX0 4, (5, .cells (Gt.q vq) [(3, .app 31)])], []⟩ ∧ Z21 k (Zh k) uk up u0t m vn vq = some out2) ?_ k ⟨_, _, stB h25⟩
    rintro m st ⟨vn, vq, rfl, h25⟩
    rcases m with _ | m
    ·exact (Zk h25).elim
    refine Wc.s0 [1, 4, 5, 19, 20, 21, 22] [4, 5] ?_
    apply Wc.seq
    refine Wc.ci h25 (fun _ h25 => ?_) (fun _ h25 => ?_)
    ·refine Wc.ks [1, 4, 5, 19, 20, 21] [4, 5] ?_
     apply Wc.seq
     apply Wc.block
     obtain ⟨vu, h27, h25⟩ := oc h25 fun vu h27 => (Z11 (c := Gt.c) (Gt.c_eq vu) Gt.c_len h27)
     refine Wc.s2 [hE h27] [1, 4, 5, 7, 19, 20, 21] [4, 5, 7] (o2 h27 (lenE h27 4)) ?_
     obtain ⟨vw, h29, h25⟩ := oc h25 fun _ => Z9j
     have h30 := (Z1l (c := Gt.c) (x := vw) (Gt.c_eq vw) (Z2s Gt.c))
     obtain ⟨h31, h25⟩ := Z4 h25
     have h32 := (Z30 Gt.c vq.ga [vw])
     refine Wc.dk hmix [{}, hM 1, {}, {}, hC h29, hB h30, { hB h32 with tk := [26] }, {}, hK [31]] [] [1, 4, 5, 19, 20, 21] [4, 5] [] (oC h29 (oC h30 (oA h32 Gt.c_leaf Gt.c_len h31 AllP.nil))) ?_
     refine Wc.k0 [1, 4, 5, 19, 20, 21] [4, 5] ?_
     exact ⟨_, Nat.lt_succ_self _, _, _, stB h25⟩
    refine Wc.ke [4, 5] [4, 5] ?_
    cases h25; exact ⟨_, rfl, by kernel_rfl⟩
   rintro st ⟨ve, rfl, rfl⟩
   refine Wc.s1 [hM 1, hK [34]] [4] [4] ?_
   cases h; exact Wc.ret dn
theorem Zb8 {k : Nat} {uk : Gt} {up : Int} {u0t : List Int} {r : Gt} (h : Zh k uk up u0t = some r) : FnO Tryz.prog 39 [.v (.agg (Gt.q uk)) [], .v (.func 118 [.vptr [aI up], .vptr [.sl (List.map cI.i64 u0t)]]) []] (.v (.agg (Gt.q r)) [(3, .app 31)]) [] := (Z99 k) h

def Zc2 (k : Nat) (uz : Gt) (uy : Int) : Option Gt :=
 (Za4 k uz).bind fun u9x =>
 (Zh k uz uy u9x).bind fun z3 =>
 some z3
theorem Zsn {k : Nat} {uz : Gt} {uy : Int} {r : Gt} (h : Zc2 k uz uy = some r) : FnO Tryz.prog 89 [.v (.agg (Gt.q uz)) [], .v (aI uy) []] (.v (.agg (Gt.q r)) [(3, .app 31)]) [] := by
 refine FnO.o2 Tryz.func89 rfl fun _ _ _ _ _ _ => ?_
 unfold Zc2 at h
 refine Wc.s0 [2, 3, 4] [2, 3, 4] ?_
 obtain ⟨u9x, h26, h⟩ := oc h fun _ => Zkg
 refine Wc.s2 [{}, hC h26] [2, 3, 4, 5] [2, 3, 4, 5] (o1 h26) ?_
 refine Wc.zk 3 ?_
 refine Wc.zk 5 ?_
 obtain ⟨z3, h28, h⟩ := oc h fun _ => Zb8
 refine Wc.s2 [{}, {}, hC h28, hK [10]] [4] [4] (o1 h28) ?_
 cases h; exact Wc.ret dn

def Z92 (k : Nat) (u38 : ByteArray) : Option Gt :=
 some (Gt.mk 2 u38 0 [])
theorem Zcn {k : Nat} {u38 : ByteArray} {r : Gt} (h : Z92 k u38 = some r) : FnO Tryz.prog 60 [.v (.str u38) []] (.v (.agg (Gt.q r)) [(3, .app 31)]) [] := by
 refine FnO.o2 Tryz.func60 rfl fun _ _ _ _ _ _ => ?_
 unfold Z92 at h
 refine Wc.s0 [0, 2] [2] ?_
 refine Wc.s1 [{}, {}, hK [4]] [2] [2] ?_
 cases h; exact Wc.ret dn

def Z3b (k : Nat) (u0n : ByteArray) (u4d : List Gt) : Option Gt :=
 some (Gt.mk 4 u0n 0 u4d)
theorem Z68 {k : Nat} {u0n : ByteArray} {u4d : List Gt} {r : Gt} (h : Z3b k u0n u4d = some r) : FnO Tryz.prog 61 [.v (.str u0n) [], .v (.sl (List.map Gt.c u4d)) []] (.v (.agg (Gt.q r)) []) [] := by
 refine FnO.o2 Tryz.func61 rfl fun _ _ _ _ _ _ => ?_
 unfold Z3b at h
 refine Wc.s0 [0, 1, 4] [4] ?_
 refine Wc.s0 [4] [4] ?_
 cases h; exact Wc.ret dn

def Z65 (k : Nat) (ue : ByteArray) (zp : ByteArray) : Option Gt :=
 (Za0 k ue).bind fun u0c =>
 if (!u0c) = true then
  (Z92 k zp).bind fun ui =>
  (Z92 k (bs [110, 111, 110, 101])).bind fun uz =>
  (Z3b k (bs [101, 114, 114, 111, 114]) [ui, uz]).bind fun ub =>
  some ub
 else
  (Z92 k zp).bind fun v5 =>
  (Z92 k ue).bind fun z3 =>
  (Z3b k (bs [101, 114, 114, 111, 114]) [v5, z3]).bind fun v9 =>
  some v9
def Z8p (k : Nat) (z0 : Int) (ue : ByteArray) : Option Gt :=
 (Z35 k z0 1 4).bind fun u0u =>
 if u0u = true then
  (at' [(bs [105, 110, 115, 116]), (bs [116, 121, 112, 101]), (bs [114, 97, 110, 103, 101]), (bs [122, 101, 114, 111])] (wr.i64 (z0 - 1))).bind fun vt =>
  Z65 k ue vt
 else
  Z65 k ue (bs [117, 110, 107, 110, 111, 119, 110])
theorem Zpg {k : Nat} {z0 : Int} {ue : ByteArray} {r : Gt} (h : Z8p k z0 ue = some r) : FnO Tryz.prog 87 [.v (aI z0) [], .v (.str ue) []] (.v (.agg (Gt.q r)) []) [] := by
 refine FnO.o2 Tryz.func87 rfl fun _ _ _ _ _ _ => ?_
 unfold Z8p at h
 refine Wc.s0 [0, 1, 4] [4] ?_
 refine Wc.s0 [0, 1, 4, 5] [4] ?_
 refine Wc.seqJ (fun st => ∃ (zp : ByteArray), st = ⟨[tS 1 ue, tP 4 4, tS 5 zp], [bX0 4], []⟩ ∧ Z65 k ue zp = some r) ?_ ?_
 ·obtain ⟨u0u, h28, h⟩ := oc h fun _ => Z4q
  refine Wc.s2 [{}, hC h28] [0, 1, 4, 5, 7] [4] (o1 h28) ?_
  refine Wc.ci h (fun _ h => ?_) (fun _ h => ?_)
  ·have h31 := (cR cS [(bs [105, 110, 115, 116]), (bs [116, 121, 112, 101]), (bs [114, 97, 110, 103, 101]), (bs [122, 101, 114, 111])])
   obtain ⟨vt, h32, h⟩ := oc h fun vt h32 => (Z11 (c := cS) rfl Zau h32)
   refine Wc.k2 [hB h31, {}, {}, hE h32] [1, 4, 5] [4] (o3 h31 h32 (lenE h32 1)) ?_
   exact ⟨_, stB h⟩
  refine Wc.ks [1, 4, 5] [4] ?_
  exact ⟨_, stB h⟩
 rintro st ⟨zp, rfl, h⟩
 apply Wc.seq
 obtain ⟨u0c, h11, h⟩ := oc h fun _ => Zke
 refine Wc.s2 [{}, hC h11] [1, 4, 5, 15] [4] (o1 h11) ?_
 refine Wc.ci h (fun _ h => ?_) (fun _ h => ?_)
 ·refine Wc.k0 [1, 4, 5] [4] ?_
  obtain ⟨ui, h14, h⟩ := oc h fun _ => Zcn
  obtain ⟨uz, h15, h⟩ := oc h fun _ => Zcn
  have h16 := (Z1l (c := Gt.c) (x := ui) (Gt.c_eq ui) (Z1l (c := Gt.c) (x := uz) (Gt.c_eq uz) (Z2s Gt.c)))
  obtain ⟨ub, h17, h⟩ := oc h fun _ => Z68
  refine Wc.s2 [{}, hC h14, {}, hC h15, hB h16, hC h17] [4] [4] (o4 h14 h15 h16 h17) ?_
  cases h; exact Wc.ret dn
 refine Wc.ks [1, 4, 5] [4] ?_
 obtain ⟨v5, h21, h⟩ := oc h fun _ => Zcn
 obtain ⟨z3, h22, h⟩ := oc h fun _ => Zcn
 have h23 := (Z1l (c := Gt.c) (x := v5) (Gt.c_eq v5) (Z1l (c := Gt.c) (x := z3) (Gt.c_eq z3) (Z2s Gt.c)))
 obtain ⟨v9, h24, h⟩ := oc h fun _ => Z68
 refine Wc.s2 [{}, hC h21, {}, hC h22, hB h23, hC h24] [4] [4] (o4 h21 h22 h23 h24) ?_
 cases h; exact Wc.ret dn

def Z5 (k : Nat) (un : Gt) : Nat → Gf → Gs → Option (Out Gs Gs)
 | 0, _, _ => none
 | m + 1, v4, u6 =>
  if (!v4.isNil) = true then
   if v4.isNil = false then
    if (v4.gi != 3) = true then
     if v4.isNil = false then
      Z5 k un m v4.gP u6
     else none
    else
     if v4.isNil = false then
      if v4.gC.isNil = false then
       if v4.gC.isNil = false then
        (Z1b k u6 v4.gC.gL v4.gC.gk).bind fun zc =>
        if v4.gC.isNil = false then
         if 0 ≤ v4.gC.gAt ∧ v4.gC.gAt ≤ (zc.gc.length : Int) then
          (Zc2 k un zc.gk).bind fun zf =>
          (Za4 k un).bind fun u85 =>
          (Z20 k (Gs.mk zc.gDb zc.gU zc.gk zc.gl zc.gw zc.gh (zc.gc.take (v4.gC.gAt).toNat) zc.gf zc.gv) (wr.i64 (zc.gk + (u85.length : Int)))).bind fun u86 =>
          if (!u86.2) = true then
           (Z1g k u86.1 1).bind fun u6e =>
           some (.ret u6e)
          else
           if v4.gC.isNil = false then
            (Z10 k u86.1 zf (Gt.mk v4.gC.gx.gi v4.gC.gx.gn v4.gC.gx.gj v4.gC.gx.ga)).bind fun u3p =>
            if u3p.2 = true then
             if v4.gC.isNil = false then
              if v4.gC.isNil = false then
               if v4.gC.isNil = false then
                (Z1q k (Gs.mk u3p.1.gDb u3p.1.gU u3p.1.gk u3p.1.gl u3p.1.gw v4.gC.gM u3p.1.gc u3p.1.gf u3p.1.gv) (Gt.mk v4.gC.gW.gi v4.gC.gW.gn v4.gC.gW.gj v4.gC.gW.ga) v4.gC.gK).bind fun u4v =>
                some (.ret u4v)
               else none
              else none
             else none
            else
             if v4.isNil = false then
              Z5 k un m v4.gP u3p.1
             else none
           else none
         else none
        else none
       else none
      else none
     else none
   else none
  else
   some (.done u6)
def Z44 (k : Nat) (vc : Gs) (un : Gt) : Option Gs :=
 (Z5 k un k vc.gh vc).bind fun out1 => match out1 with
 | .ret r => some r
 | .done u5 =>
  (Z1g k (Gs.mk u5.gDb u5.gU u5.gk u5.gl u5.gw u5.gh u5.gc (Gw.mk u5.gf.gp u5.gf.gz un u5.gf.gf u5.gf.gDb u5.gf.gl) u5.gv) 2).bind fun u6f =>
  some u6f
theorem Zdn {k : Nat} {vc : Gs} {un : Gt} {r : Gs} (h : Z44 k vc un = some r) : FnO Tryz.prog 64 [.p (Gs.k vc) (Gs.h vc), .v (.agg (Gt.q un)) []] (.v (.tup []) []) [(0, .p (Gs.k r) (Gs.h r))] := by
 refine FnO.o2 Tryz.func64 rfl fun _ _ _ _ _ _ => ?_
 unfold Z44 at h
 refine Wc.s0 [0, 3] [3, 1000000] ?_
 apply Wc.seq
 refine Wc.s0 [0, 3, 4] [3, 1000000] ?_
 obtain ⟨out1, h35, h⟩ := Z2d h
 refine Wc.lastJ (fun st => ∃ (u5 : Gs), out1 = .done u5 ∧ st = ⟨[tP 0 1000000, tP 3 3], [bC 3 (Gt.q un), (1000000, .cells (Gs.k u5) (Gs.h u5))], []⟩) ?_ ?_
 ·apply Wc.block
  refine Wc.loop (fun m st => ∃ (v4 : Gf) (u6 : Gs), st = ⟨[tP 0 1000000, tP 3 3, tV 4 (Gf.v v4)], [bC 3 (Gt.q un), (1000000, .cells (Gs.k u6) (Gs.h u6))], []⟩ ∧ Z5 k un m v4 u6 = some out1) ?_ k ⟨_, _, stB h35⟩
  rintro m st ⟨v4, u6, rfl, h35⟩
  rcases m with _ | m
  ·exact (Zk h35).elim
  apply Wc.seq
  refine Wc.s2 [{}, { v := some (.bool (!v4.isNil)) }] [0, 3, 4, 12] [3, 1000000] (o1 (Gf.nil_no v4)) ?_
  refine Wc.ci h35 (fun _ h35 => ?_) (fun _ h35 => ?_)
  ·refine Wc.ks [0, 3, 4] [3, 1000000] ?_
   apply Wc.seq
   apply Wc.block
   apply Wc.seq
   obtain ⟨h37, h35⟩ := Z4 h35
   refine Wc.s2 [{}, { v := some (.vptr (Gf.cs v4)) }] [0, 3, 4, 21] [3, 1000000] (o2 (Gf.v_ok h37) (Gf.len v4 0 1)) ?_
   refine Wc.ci h35 (fun _ h35 => ?_) (fun _ h35 => ?_)
   ·refine Wc.ke [0, 3, 4] [3, 1000000] ?_
    obtain ⟨h39, h35⟩ := Z4 h35
    refine Wc.k2 [{}, { v := some (.vptr (Gf.cs v4)) }] [0, 3, 4] [3, 1000000] (o2 (Gf.v_ok h39) (Gf.len v4 7 1)) ?_
    exact ⟨_, Nat.lt_succ_self _, _, _, stB h35⟩
   refine Wc.ks [0, 3, 4] [3, 1000000] ?_
   obtain ⟨h40, h35⟩ := Z4 h35
   refine Wc.s2 [{}, { v := some (.vptr (Gf.cs v4)) }] [0, 3, 4, 5] [3, 1000000] (o2 (Gf.v_ok h40) (Gf.len v4 6 1)) ?_
   apply Wc.seq
   obtain ⟨h41, h35⟩ := Z4 h35
   obtain ⟨h42, h35⟩ := Z4 h35
   obtain ⟨zc, h43, h35⟩ := oc h35 fun _ => Z6t
   refine Wc.dk hmix [{}, {}, { v := some (.vptr (Ga.cs v4.gC)) }, {}, {}, {}, { v := some (.vptr (Ga.cs v4.gC)) }, {}, {}, hC h43] [] [0, 3, 4, 5] [3, 1000000] [] (oC (Ga.v_ok h41) (oC (Ga.len v4.gC 1 1) (oC (Ga.v_ok h42) (oC (Ga.len v4.gC 2 1) (oC h43 AllP.nil))))) ?_
   apply Wc.seq
   obtain ⟨h45, h35⟩ := Z4 h35
   obtain ⟨h46, h35⟩ := Z4 h35
   refine Wc.meet hmix [{}, {}, {}, {}, {}, {}, { v := some (.vptr (Ga.cs v4.gC)) }, {}, {}, { c := some (List.map Gp.c (zc.gc.take (v4.gC.gAt).toNat)), tk := [40], fx := [.pl 40] }, {}, {}, hK [45]] [] [] [0, 3, 4, 5, 36, 37, 38, 39, 40, 41, 42, 43, 44, 45, 46, 47] [3, 1000000] [] [.so 1000000] [0, 3, 4, 5] [3, 1000000] [] ⟨[tP 0 1000000, tP 3 3, tV 4 (Gf.v v4), tV 5 (Ga.v v4.gC)], [bC 3 (Gt.q un), (1000000, .cells (Gs.k zc) [(2, .ex 31 false (List.map Gt.c zc.gU.ge)), (3, .ex 3 false (List.map cI.i64 zc.gU.gd)), (9, .ex 78 false (List.map Gp.c (zc.gc.take (v4.gC.gAt).toNat))), (10, .ex 31 false (List.map Gt.c zc.gf.gp))])], []⟩ _ [0, 1, 2, 32, 3, 33, 6, 34, 96, 7, 35, 97, 14, 38, 98, 224, 15, 39, 99, 225, 30, 46, 102, 226, 480, 31, 47, 103, 227, 481, 62, 110, 230, 482, 63, 111, 231, 483, 126, 238, 486, 127, 239, 487, 254, 494, 255, 495, 510, 511, 1022, 1023, 2047, 4095, 8191] (by kernel_rfl) (by kernel_rfl) (by as_aux_lemma => kernel_rfl) (by kernel_rfl) (by kernel_rfl) (.cons .nil (.cons .nil (.cons .nil (.cons .nil (.cons .nil (.cons .nil (.cons (oC (Ga.v_ok h45) AllP.nil) (.cons .nil (.cons (oC (Ga.len v4.gC 0 1) AllP.nil) (.cons (oC (Zgf Gp.c zc.gc v4.gC.gAt) (oC (Zdv (c := Gp.c) h46) AllP.nil)) (.cons .nil (.cons .nil (.cons .nil .nil))))))))))))) ?_
   apply Wc.seq
   obtain ⟨zf, h47, h35⟩ := oc h35 fun _ => Zsn
   refine Wc.dk hmix [{}, {}, {}, {}, {}, hC h47, {}, hK [53]] [] [0, 3, 4, 5, 6] [3, 6, 1000000] [] (o1 h47) ?_
   apply Wc.seq
   apply Wc.seq
   obtain ⟨u85, h49, h35⟩ := oc h35 fun _ => Zkg
   obtain ⟨u86, h50, h35⟩ := oc h35 fun _ => Z6g
   refine Wc.dk hmix [{}, {}, {}, {}, {}, {}, hC h49, hL u85, {}, hC h50] [] [0, 3, 4, 5, 6, 64] [3, 6, 1000000] [] (o3 h49 (Z2 cI.i64 u85) h50) ?_
   refine Wc.ci h35 (fun _ h35 => ?_) (fun _ h35 => ?_)
   ·obtain ⟨u6e, h54, h35⟩ := oc h35 fun _ => Z2a
    refine Wc.s2 [{}, hC h54] [] [1000000] (o1 h54) ?_
    refine Wc.ret ?_
    cases h35
    cases h; exact ⟨(by first | exact .inl rfl | exact .inr rfl), by kernel_rfl, by kernel_rfl⟩
   refine Wc.ks [0, 3, 4, 5, 6] [3, 6, 1000000] ?_
   apply Wc.seq
   obtain ⟨h56, h35⟩ := Z4 h35
   obtain ⟨u3p, h57, h35⟩ := oc h35 fun _ => Z56
   refine Wc.dk hmix [{}, {}, {}, { v := some (.vptr (Ga.cs v4.gC)) }, {}, {}, hC h57] [] [0, 3, 4, 5, 73] [3, 1000000] [] (o3 (Ga.v_ok h56) (Ga.len v4.gC 9 4) h57) ?_
   refine Wc.ci h35 (fun _ h35 => ?_) (fun _ h35 => ?_)
   ·obtain ⟨h60, h35⟩ := Z4 h35
    refine Wc.s2 [{}, {}, { v := some (.vptr (Ga.cs v4.gC)) }, {}, {}, {}, {}, { op := [78] }] [0, 5] [1000000] (o3 (Ga.v_ok h60) (Ga.len v4.gC 18 1) (Gf.v_leaf v4.gC.gM)) ?_
    apply Wc.seq
    obtain ⟨h61, h35⟩ := Z4 h35
    obtain ⟨h62, h35⟩ := Z4 h35
    obtain ⟨u4v, h63, h35⟩ := oc h35 fun _ => Z2l
    refine Wc.dk hmix [{}, {}, { v := some (.vptr (Ga.cs v4.gC)) }, {}, {}, {}, { v := some (.vptr (Ga.cs v4.gC)) }, {}, {}, hC h63] [] [] [1000000] [] (oC (Ga.v_ok h61) (oC (Ga.len v4.gC 13 4) (oC (Ga.v_ok h62) (oC (Ga.len v4.gC 17 1) (oC h63 AllP.nil))))) ?_
    refine Wc.ret ?_
    cases h35
    cases h; exact ⟨(by first | exact .inl rfl | exact .inr rfl), by kernel_rfl, by kernel_rfl⟩
   refine Wc.ks [0, 3, 4] [3, 1000000] ?_
   obtain ⟨h65, h35⟩ := Z4 h35
   refine Wc.k2 [{}, { v := some (.vptr (Gf.cs v4)) }] [0, 3, 4] [3, 1000000] (o2 (Gf.v_ok h65) (Gf.len v4 7 1)) ?_
   exact ⟨_, Nat.lt_succ_self _, _, _, stB h35⟩
  refine Wc.ke [0, 3] [3, 1000000] ?_
  cases h35; exact ⟨_, rfl, by kernel_rfl⟩
 rintro st ⟨u5, rfl, rfl⟩
 refine Wc.s0 [0] [1000000] ?_
 obtain ⟨u6f, h66, h⟩ := oc h fun _ => Z2a
 refine Wc.k2 [{}, hC h66] [] [1000000] (o1 h66) ?_
 cases h; exact ⟨(by first | exact .inl rfl | exact .inr rfl), by kernel_rfl, by kernel_rfl⟩

def Z9 (k : Nat) (u2 : Gs) (zi : Int) (u0a : ByteArray) : Option Gs :=
 (Z8p k zi u0a).bind fun ut =>
 (Z44 k u2 ut).bind fun v2 =>
 some v2
theorem Z1a {k : Nat} {u2 : Gs} {zi : Int} {u0a : ByteArray} {r : Gs} (h : Z9 k u2 zi u0a = some r) : FnO Tryz.prog 58 [.p (Gs.k u2) (Gs.h u2), .v (aI zi) [], .v (.str u0a) []] (.v (.tup []) []) [(0, .p (Gs.k r) (Gs.h r))] := by
 refine FnO.o2 Tryz.func58 rfl fun _ _ _ _ _ _ => ?_
 unfold Z9 at h
 obtain ⟨ut, h11, h⟩ := oc h fun _ => Zpg
 obtain ⟨v2, h12, h⟩ := oc h fun _ => Zdn
 refine Wc.k2 [{}, {}, {}, hC h11, hC h12] [] [1000000] (o2 h11 h12) ?_
 cases h; exact ⟨(by first | exact .inl rfl | exact .inr rfl), by kernel_rfl, by kernel_rfl⟩

def Z3 (k : Nat) (Z3z : Gt → Gt → Option Bool) (zr : List Gt) (zo : List Gt) : Nat → Int → Option (Out Bool Unit)
 | 0, _ => none
 | m + 1, uo =>
  if (decide (uo < (zr.length : Int))) = true then
   (at' zr uo).bind fun ui =>
   (at' zo uo).bind fun uz =>
   (Z3z ui uz).bind fun u0d =>
   if (!u0d) = true then
    some (.ret false)
   else
    Z3 k Z3z zr zo m (wr.i64 (uo + 1))
  else
   some (.done ())
def Z8 (k : Nat) (Z3z : Gt → Gt → Option Bool) (zr : List Gt) (zo : List Gt) : Option Bool :=
 if ((zr.length : Int) != (zo.length : Int)) = true then
  some false
 else
  (Z3 k Z3z zr zo k 0).bind fun out1 => match out1 with
  | .ret r => some r
  | .done () =>
   some true
theorem Z23 {k : Nat} {Z3z : Gt → Gt → Option Bool} (Zb7 : ∀ {y0 : Gt} {y1 : Gt} {r : Bool}, Z3z y0 y1 = some r → FnO Tryz.prog 92 [.v (.agg (Gt.q y0)) [], .v (.agg (Gt.q y1)) []] (.v (.bool r) []) []) {zr : List Gt} {zo : List Gt} {r : Bool} (h : Z8 k Z3z zr zo = some r) : FnO Tryz.prog 122 [.v (.sl (List.map Gt.c zr)) [], .v (.sl (List.map Gt.c zo)) [], .v (.func 92 []) []] (.v (.bool r) []) [] := by
 refine FnO.o2 Tryz.func122 rfl fun _ _ _ _ _ _ => ?_
 unfold Z8 at h
 refine Wc.s0 [0, 1, 2] [] ?_
 apply Wc.seq
 refine Wc.s2 [{}, hL zr, {}, hL zo] [0, 1, 2, 14] [] (o2 (Z2 Gt.c zr) (Z2 Gt.c zo)) ?_
 refine Wc.ci h (fun _ h => ?_) (fun _ h => ?_)
 ·refine Wc.s0 [6] [] ?_
  cases h; exact Wc.ret dn
 refine Wc.ks [0, 1, 2] [] ?_
 apply Wc.seq
 refine Wc.s2 [{}, hL zr] [1, 2, 15, 16, 17] [] (o1 (Z2 Gt.c zr)) ?_
 obtain ⟨out1, h14, h⟩ := Z2d h
 refine Wc.lastJ (fun st => out1 = .done () ∧ st = ⟨[], [], []⟩) ?_ ?_
 ·apply Wc.block
  refine Wc.loop (fun m st => ∃ (uo : Int), st = ⟨[tV 1 (.sl (List.map Gt.c zo)), tV 2 (.func 92 []), tV 15 (.sl (List.map Gt.c zr)), tI 16 (zr.length : Int), tI 17 uo], [], []⟩ ∧ Z3 k Z3z zr zo m uo = some out1) ?_ k ⟨_, stB h14⟩
  rintro m st ⟨uo, rfl, h14⟩
  rcases m with _ | m
  ·exact (Zk h14).elim
  refine Wc.s0 [1, 2, 15, 16, 17, 18] [] ?_
  apply Wc.seq
  refine Wc.ci h14 (fun _ h14 => ?_) (fun _ h14 => ?_)
  ·refine Wc.ks [1, 2, 15, 16, 17] [] ?_
   apply Wc.seq
   apply Wc.block
   obtain ⟨ui, h16, h14⟩ := oc h14 fun ui h16 => (Z11 (c := Gt.c) (Gt.c_eq ui) Gt.c_len h16)
   refine Wc.s2 [{}, hE h16] [1, 2, 7, 8, 15, 16, 17] [8] (o2 h16 (lenE h16 4)) ?_
   obtain ⟨uz, h18, h14⟩ := oc h14 fun uz h18 => (Z11 (c := Gt.c) (Gt.c_eq uz) Gt.c_len h18)
   refine Wc.s2 [{}, {}, hE h18] [1, 2, 8, 9, 15, 16, 17] [8, 9] (o2 h18 (lenE h18 4)) ?_
   obtain ⟨u0d, h20, h14⟩ := oc h14 fun _ => Zb7
   refine Wc.s2 [{}, {}, {}, hC h20] [1, 2, 15, 16, 17, 30] [] (o1 h20) ?_
   refine Wc.ci h14 (fun _ h14 => ?_) (fun _ h14 => ?_)
   ·refine Wc.s0 [6] [] ?_
    cases h14; cases h; exact Wc.ret dn
   refine Wc.ks [1, 2, 15, 16, 17] [] ?_
   refine Wc.k0 [1, 2, 15, 16, 17] [] ?_
   exact ⟨_, Nat.lt_succ_self _, _, stB h14⟩
  refine Wc.ke [] [] ?_
  cases h14; exact ⟨rfl, by kernel_rfl⟩
 rintro st ⟨rfl, rfl⟩
 refine Wc.s0 [6] [] ?_
 cases h; exact Wc.ret dn

mutual
def Z5d : Nat → Gt → Gt → Option Bool
 | 0, _, _ => none
 | k + 1, v3, ut =>
  if (v3.gi == ut.gi) = true then
   if (sEq v3.gn ut.gn) = true then
    if (v3.gj == ut.gj) = true then
     (Z8 k (Z5d k) v3.ga ut.ga).bind fun u0m =>
     some u0m
    else
     some false
   else
    some false
  else
   some false
end
theorem Zko : ∀ k : Nat, (∀ {v3 : Gt} {ut : Gt} {r : Bool}, Z5d k v3 ut = some r → FnO Tryz.prog 92 [.v (.agg (Gt.q v3)) [], .v (.agg (Gt.q ut)) []] (.v (.bool r) []) []) := by
 intro k
 induction k with
 | zero =>
  ·intro v3 ut r h
   exact (Zk (by rw [Z5d] at h; exact h)).elim
 | succ k ih =>
  have Zb7 := @ih
  ·intro v3 ut r h
   rw [Z5d] at h
   refine FnO.o2 Tryz.func92 rfl fun _ _ _ _ _ _ => ?_
   refine Wc.s0 [2, 3] [2, 3] ?_
   rcases oif h with ⟨h10, h⟩ | ⟨h10, h⟩
   ·rcases oif h with ⟨h11, h⟩ | ⟨h11, h⟩
    ·rcases oif h with ⟨h12, h⟩ | ⟨h12, h⟩
     ·obtain ⟨u0m, h13, h⟩ := oc h fun u0m h13 => (Z23 (fun h => Zb7 h) h13)
      refine Wc.s2 [{}, {}, {}, {}, {}, rT, {}, {}, {}, {}, {}, {}, rT, {}, {}, {}, {}, {}, {}, rT, {}, {}, {}, {}, hC h13] [4] [] (o4 (cb h10) (cb h11) (cb h12) h13) ?_
      cases h; exact Wc.ret dn
     refine Wc.s2 [{}, {}, {}, {}, {}, rT, {}, {}, {}, {}, {}, {}, rT, {}, {}, {}, {}, {}, {}, rF] [4] [] (o3 (cb h10) (cb h11) (cb h12)) ?_
     cases h; exact Wc.ret dn
    refine Wc.s2 [{}, {}, {}, {}, {}, rT, {}, {}, {}, {}, {}, {}, rF] [4] [] (o2 (cb h10) (cb h11)) ?_
    cases h; exact Wc.ret dn
   refine Wc.s2 [{}, {}, {}, {}, {}, rF] [4] [] (o1 (cb h10)) ?_
   cases h; exact Wc.ret dn
theorem Zr3 {k : Nat} {v3 : Gt} {ut : Gt} {r : Bool} (h : Z5d k v3 ut = some r) : FnO Tryz.prog 92 [.v (.agg (Gt.q v3)) [], .v (.agg (Gt.q ut)) []] (.v (.bool r) []) [] := (Zko k) h

def Z9f (k : Nat) (vb : ByteArray) (u2g : Bool) : Option (GOp × Bool) :=
 if u2g = true then
  some (GOp.mk vb 500 500 499, true)
 else
  if (sEq vb (bs [42])) = true then
   if (sEq vb (bs [42])) = true then
    some (GOp.mk vb 400 400 399, true)
   else
    some (GOp.mk (bs []) 0 0 0, false)
  else
   if (sEq vb (bs [47, 47])) = true then
    some (GOp.mk vb 400 400 399, true)
   else
    some (GOp.mk (bs []) 0 0 0, false)
def Z4o (k : Nat) (vb : ByteArray) (u6g : Bool) : Option (GOp × Bool) :=
 if u6g = true then
  some (GOp.mk vb 700 699 699, true)
 else
  if (sEq vb (bs [43])) = true then
   Z9f k vb (sEq vb (bs [43]))
  else
   Z9f k vb (sEq vb (bs [45]))
def Z9g (k : Nat) (vb : ByteArray) (u6h : Bool) : Option (GOp × Bool) :=
 if u6h = true then
  some (GOp.mk vb 1200 1199 1199, true)
 else
  if (sEq vb (bs [59])) = true then
   some (GOp.mk vb 1100 1099 1100, true)
  else
   if (sEq vb (bs [45, 62])) = true then
    some (GOp.mk vb 1050 1049 1050, true)
   else
    if (sEq vb (bs [44])) = true then
     some (GOp.mk vb 1000 999 1000, true)
    else
     if (sEq vb (bs [61])) = true then
      Z4o k vb (sEq vb (bs [61]))
     else
      if (sEq vb (bs [92, 61])) = true then
       Z4o k vb (sEq vb (bs [92, 61]))
      else
       if (sEq vb (bs [61, 61])) = true then
        Z4o k vb (sEq vb (bs [61, 61]))
       else
        if (sEq vb (bs [105, 115])) = true then
         Z4o k vb (sEq vb (bs [105, 115]))
        else
         if (sEq vb (bs [60])) = true then
          Z4o k vb (sEq vb (bs [60]))
         else
          Z4o k vb (sEq vb (bs [61, 58, 61]))
def Z9m (k : Nat) (vb : ByteArray) : Option (GOp × Bool) :=
 if (sEq vb (bs [58, 45])) = true then
  Z9g k vb (sEq vb (bs [58, 45]))
 else
  Z9g k vb (sEq vb (bs [45, 45, 62]))
theorem Zm2 {k : Nat} {vb : ByteArray} {r : GOp × Bool} (h : Z9m k vb = some r) : FnO Tryz.prog 176 [.v (.str vb) []] (.v (.tup [.agg (GOp.q r.1), .bool r.2]) []) [] := by
 refine FnO.o2 Tryz.func176 rfl fun _ _ _ _ _ _ => ?_
 unfold Z9m at h
 refine Wc.s0 [0, 2] [2] ?_
 apply Wc.seq
 refine Wc.s0 [0, 2, 4] [2] ?_
 apply Wc.block
 refine Wc.seqJ (fun st => ∃ (u6h : Bool), st = ⟨[tS 0 vb, tP 2 2, tS 4 vb, tB 5 u6h], [bC 2 GOp.z], []⟩ ∧ Z9g k vb u6h = some r) ?_ ?_
 ·refine Wc.s0 [0, 2, 4, 5] [2] ?_
  refine Wc.ci h (fun _ h => ?_) (fun _ h => ?_)
  ·apply Wc.skip
   exact ⟨_, stB h⟩
  refine Wc.k0 [0, 2, 4, 5] [2] ?_
  exact ⟨_, stB h⟩
 rintro st ⟨u6h, rfl, h⟩
 refine Wc.ci h (fun _ h => ?_) (fun _ h => ?_)
 ·refine Wc.s0 [2, 3] [2] ?_
  cases h; exact Wc.ret dn
 refine Wc.s0 [0, 2, 4, 10] [2] ?_
 refine Wc.ci h (fun _ h => ?_) (fun _ h => ?_)
 ·refine Wc.s0 [2, 3] [2] ?_
  cases h; exact Wc.ret dn
 refine Wc.s0 [0, 2, 4, 14] [2] ?_
 refine Wc.ci h (fun _ h => ?_) (fun _ h => ?_)
 ·refine Wc.s0 [2, 3] [2] ?_
  cases h; exact Wc.ret dn
 refine Wc.s0 [0, 2, 4, 18] [2] ?_
 refine Wc.ci h (fun _ h => ?_) (fun _ h => ?_)
 ·refine Wc.s0 [2, 3] [2] ?_
  cases h; exact Wc.ret dn
 refine Wc.seqJ (fun st => ∃ (u6g : Bool), st = ⟨[tS 0 vb, tP 2 2, tS 4 vb, tB 22 u6g], [bC 2 GOp.z], []⟩ ∧ Z4o k vb u6g = some r) ?_ ?_
 ·refine Wc.s0 [0, 2, 4, 22] [2] ?_
  refine Wc.ci h (fun _ h => ?_) (fun _ h => ?_)
  ·apply Wc.skip
   exact ⟨_, stB h⟩
  refine Wc.s0 [0, 2, 4, 22] [2] ?_
  refine Wc.ci h (fun _ h => ?_) (fun _ h => ?_)
  ·apply Wc.skip
   exact ⟨_, stB h⟩
  refine Wc.s0 [0, 2, 4, 22] [2] ?_
  refine Wc.ci h (fun _ h => ?_) (fun _ h => ?_)
  ·apply Wc.skip
   exact ⟨_, stB h⟩
  refine Wc.s0 [0, 2, 4, 22] [2] ?_
  refine Wc.ci h (fun _ h => ?_) (fun _ h => ?_)
  ·apply Wc.skip
   exact ⟨_, stB h⟩
  refine Wc.s0 [0, 2, 4, 22] [2] ?_
  refine Wc.ci h (fun _ h => ?_) (fun _ h => ?_)
  ·apply Wc.skip
   exact ⟨_, stB h⟩
  refine Wc.k0 [0, 2, 4, 22] [2] ?_
  exact ⟨_, stB h⟩
 rintro st ⟨u6g, rfl, h⟩
 refine Wc.ci h (fun _ h => ?_) (fun _ h => ?_)
 ·refine Wc.s0 [2, 3] [2] ?_
  cases h; exact Wc.ret dn
 refine Wc.seqJ (fun st => ∃ (u2g : Bool), st = ⟨[tS 0 vb, tP 2 2, tS 4 vb, tB 31 u2g], [bC 2 GOp.z], []⟩ ∧ Z9f k vb u2g = some r) ?_ ?_
 ·refine Wc.s0 [0, 2, 4, 31] [2] ?_
  refine Wc.ci h (fun _ h => ?_) (fun _ h => ?_)
  ·apply Wc.skip
   exact ⟨_, stB h⟩
  refine Wc.k0 [0, 2, 4, 31] [2] ?_
  exact ⟨_, stB h⟩
 rintro st ⟨u2g, rfl, h⟩
 refine Wc.ci h (fun _ h => ?_) (fun _ h => ?_)
 ·refine Wc.s0 [2, 3] [2] ?_
  cases h; exact Wc.ret dn
 apply Wc.seq
 refine Wc.s0 [0, 2, 4, 36] [2] ?_
 refine Wc.ci h (fun _ h => ?_) (fun _ h => ?_)
 ·refine Wc.ks [0, 2, 36] [2] ?_
  refine Wc.ci h (fun _ h => ?_) (fun _ h => ?_)
  ·refine Wc.s0 [2, 3] [2] ?_
   cases h; exact Wc.ret dn
  refine Wc.ks [2] [2] ?_
  refine Wc.s0 [2, 3] [2] ?_
  cases h; exact Wc.ret dn
 refine Wc.k0 [0, 2, 36] [2] ?_
 refine Wc.ci h (fun _ h => ?_) (fun _ h => ?_)
 ·refine Wc.s0 [2, 3] [2] ?_
  cases h; exact Wc.ret dn
 refine Wc.ks [2] [2] ?_
 refine Wc.s0 [2, 3] [2] ?_
 cases h; exact Wc.ret dn

def Za1 (k : Nat) (u3j : Gt) (u03 : ByteArray) : Option Bool :=
 if (u3j.gi == 2) = true then
  some (sEq u3j.gn u03)
 else
  some false
theorem Zpb {k : Nat} {u3j : Gt} {u03 : ByteArray} {r : Bool} (h : Za1 k u3j u03 = some r) : FnO Tryz.prog 164 [.v (.agg (Gt.q u3j)) [], .v (.str u03) []] (.v (.bool r) []) [] := by
 refine FnO.o2 Tryz.func164 rfl fun _ _ _ _ _ _ => ?_
 unfold Za1 at h
 refine Wc.s0 [1, 2] [2] ?_
 rcases oif h with ⟨h8, h⟩ | ⟨h8, h⟩
 ·refine Wc.s2 [{}, {}, {}, rT] [4] [] (o1 (cb h8)) ?_
  cases h; exact Wc.ret dn
 refine Wc.s2 [{}, {}, {}, rF] [4] [] (o1 (cb h8)) ?_
 cases h; exact Wc.ret dn

def Za5 (k : Nat) (u0a : ByteArray) : Option (GOp × Bool) :=
 if (sEq u0a (bs [58, 45])) = true then
  some (GOp.mk u0a 1200 0 1199, true)
 else
  if (sEq u0a (bs [92, 43])) = true then
   some (GOp.mk u0a 900 0 900, true)
  else
   if (sEq u0a (bs [45])) = true then
    some (GOp.mk u0a 200 0 200, true)
   else
    some (GOp.mk (bs []) 0 0 0, false)
theorem Zr4 {k : Nat} {u0a : ByteArray} {r : GOp × Bool} (h : Za5 k u0a = some r) : FnO Tryz.prog 177 [.v (.str u0a) []] (.v (.tup [.agg (GOp.q r.1), .bool r.2]) []) [] := by
 refine FnO.o2 Tryz.func177 rfl fun _ _ _ _ _ _ => ?_
 unfold Za5 at h
 refine Wc.s0 [0, 2] [2] ?_
 apply Wc.seq
 refine Wc.s0 [0, 2, 4] [2] ?_
 apply Wc.block
 refine Wc.s0 [0, 2, 4, 5] [2] ?_
 refine Wc.ci h (fun _ h => ?_) (fun _ h => ?_)
 ·refine Wc.s0 [2, 3] [2] ?_
  cases h; exact Wc.ret dn
 refine Wc.s0 [0, 2, 4, 9] [2] ?_
 refine Wc.ci h (fun _ h => ?_) (fun _ h => ?_)
 ·refine Wc.s0 [2, 3] [2] ?_
  cases h; exact Wc.ret dn
 refine Wc.s0 [0, 2, 13] [2] ?_
 refine Wc.ci h (fun _ h => ?_) (fun _ h => ?_)
 ·refine Wc.s0 [2, 3] [2] ?_
  cases h; exact Wc.ret dn
 refine Wc.ks [2] [2] ?_
 refine Wc.s0 [2, 3] [2] ?_
 cases h; exact Wc.ret dn

def Zmp (k : Nat) (u03 : ByteArray) : Option Bool :=
 (Z9m k u03).bind fun u9y =>
 (Za5 k u03).bind fun u9z =>
 if u9y.2 = true then
  some true
 else
  some u9z.2
theorem Z117 {k : Nat} {u03 : ByteArray} {r : Bool} (h : Zmp k u03 = some r) : FnO Tryz.prog 165 [.v (.str u03) []] (.v (.bool r) []) [] := by
 refine FnO.o2 Tryz.func165 rfl fun _ _ _ _ _ _ => ?_
 unfold Zmp at h
 refine Wc.s0 [0] [] ?_
 obtain ⟨u9y, h12, h⟩ := oc h fun _ => Zm2
 refine Wc.s2 [{}, hC h12] [0, 4] [] (o1 h12) ?_
 obtain ⟨u9z, h14, h⟩ := oc h fun _ => Zr4
 refine Wc.s2 [{}, hC h14] [4, 6] [] (o1 h14) ?_
 rcases oif h with ⟨h16, h⟩ | ⟨h16, h⟩
 ·refine Wc.s2 [{}, rT] [2] [] (o1 (cb h16)) ?_
  cases h; exact Wc.ret dn
 refine Wc.s2 [{}, rF] [2] [] (o1 (cb h16)) ?_
 cases h; exact Wc.ret dn

def Z8n (k : Nat) (uy : Int) : Option Bool :=
 some (uy != 10)
theorem Zpe {k : Nat} {uy : Int} {r : Bool} (h : Z8n k uy = some r) : FnO Tryz.prog 185 [.v (.int .u8 uy) []] (.v (.bool r) []) [] := by
 refine FnO.o2 Tryz.func185 rfl fun _ _ _ _ _ _ => ?_
 unfold Z8n at h
 refine Wc.s0 [0] [] ?_
 refine Wc.s0 [2] [] ?_
 cases h; exact Wc.ret dn

def Z2e (k : Nat) (zs : ByteArray) : Nat → Int → Option (Out Int Int)
 | 0, _ => none
 | m + 1, u7 =>
  if (decide (u7 < (zs.size : Int))) = true then
   if 0 ≤ u7 ∧ (u7).toNat < zs.size then
    (Z8n k (bt zs u7)).bind fun zm =>
    if zm = true then
     Z2e k zs m (wr.i64 (u7 + 1))
    else
     some (.done u7)
   else none
  else
   some (.done u7)
def Z3w (k : Nat) (zs : ByteArray) (um : Int) : Option Int :=
 (Z2e k zs k um).bind fun out1 => match out1 with
 | .ret r => some r
 | .done uy =>
  some uy
theorem Zck {k : Nat} {zs : ByteArray} {um : Int} {r : Int} (h : Z3w k zs um = some r) : FnO Tryz.prog 184 [.v (.str zs) [], .v (aI um) [], .v (.func 185 []) []] (.v (aI r) []) [] := by
 refine FnO.o2 Tryz.func184 rfl fun _ _ _ _ _ _ => ?_
 unfold Z3w at h
 refine Wc.s0 [0, 1, 2] [] ?_
 obtain ⟨out1, h17, h⟩ := Z2d h
 refine Wc.seqJ (fun st => ∃ (uy : Int), out1 = .done uy ∧ st = ⟨[tI 1 uy], [], []⟩) ?_ ?_
 ·apply Wc.block
  refine Wc.loop (fun m st => ∃ (u7 : Int), st = ⟨[tS 0 zs, tI 1 u7, tV 2 (.func 185 [])], [], []⟩ ∧ Z2e k zs m u7 = some out1) ?_ k ⟨_, stB h17⟩
  rintro m st ⟨u7, rfl, h17⟩
  rcases m with _ | m
  ·exact (Zk h17).elim
  apply Wc.seq
  rcases oif h17 with ⟨h18, h17⟩ | ⟨h18, h17⟩
  ·obtain ⟨h19, h17⟩ := Z4 h17
   obtain ⟨zm, h20, h17⟩ := oc h17 fun _ => Zpe
   refine Wc.s2 [{}, {}, {}, {}, rT, {}, {}, {}, {}, hC h20] [0, 1, 2, 17] [] (o3 (cb h18) h19 h20) ?_
   refine Wc.ci h17 (fun _ h17 => ?_) (fun _ h17 => ?_)
   ·refine Wc.ks [0, 1, 2] [] ?_
    apply Wc.block
    refine Wc.k0 [0, 1, 2] [] ?_
    exact ⟨_, Nat.lt_succ_self _, _, stB h17⟩
   refine Wc.ke [1] [] ?_
   cases h17; exact ⟨_, rfl, by kernel_rfl⟩
  refine Wc.s2 [{}, {}, {}, {}, rF] [0, 1, 2, 17] [] (o1 (cb h18)) ?_
  refine Wc.cF rfl ?_
  refine Wc.ke [1] [] ?_
  cases h17; exact ⟨_, rfl, by kernel_rfl⟩
 rintro st ⟨uy, rfl, rfl⟩
 refine Wc.s0 [6] [] ?_
 cases h; exact Wc.ret dn

def Z3g (k : Nat) (s : ByteArray) (c : Int) : Option Int :=
 some (Lib.indexByte s.data.toList c.toNat.toUInt8)
theorem Z7v {k : Nat} {s : ByteArray} {c r : Int} (h : Z3g k s c = some r) : FnO Tryz.prog 195 [.v (.str s) [], .v (.int .u8 c) []] (.v (aI r) []) [] := Zqu Tryz.strings_IndexByte h

def Z5c (k : Nat) (uc : Int) : Option Bool :=
 (Z3g k (bs [43, 45, 42, 47, 92, 94, 60, 62, 61, 126, 58, 46, 63, 64, 35, 38, 36]) uc).bind fun va =>
 some (decide (va ≥ 0))
theorem Zco {k : Nat} {uc : Int} {r : Bool} (h : Z5c k uc = some r) : FnO Tryz.prog 194 [.v (.int .u8 uc) []] (.v (.bool r) []) [] := by
 refine FnO.o2 Tryz.func194 rfl fun _ _ _ _ _ _ => ?_
 unfold Z5c at h
 refine Wc.s0 [0] [] ?_
 obtain ⟨va, h24, h⟩ := oc h fun _ => Z7v
 refine Wc.s2 [{}, hC h24] [2] [] (o1 h24) ?_
 cases h; exact Wc.ret dn

def Z6q (k : Nat) (v0 : Int) (uw : ByteArray) : Option Bool :=
 if ((wr.i64 (v0 + 1)) == (uw.size : Int)) = true then
  some true
 else
  if 0 ≤ wr.i64 (v0 + 1) ∧ (wr.i64 (v0 + 1)).toNat < uw.size then
   (Z3g k (bs [32, 9, 10, 37]) (bt uw (wr.i64 (v0 + 1)))).bind fun uc =>
   some (decide (uc ≥ 0))
  else none
def Za3 (k : Nat) (uw : ByteArray) (v0 : Int) : Option Bool :=
 if 0 ≤ v0 ∧ (v0).toNat < uw.size then
  if ((bt uw v0) != 46) = true then
   some false
  else
   if (decide (v0 > 0)) = true then
    if 0 ≤ wr.i64 (v0 - 1) ∧ (wr.i64 (v0 - 1)).toNat < uw.size then
     (Z5c k (bt uw (wr.i64 (v0 - 1)))).bind fun u33 =>
     if u33 = true then
      some false
     else
      Z6q k v0 uw
    else none
   else
    Z6q k v0 uw
 else none
theorem Zr2 {k : Nat} {uw : ByteArray} {v0 : Int} {r : Bool} (h : Za3 k uw v0 = some r) : FnO Tryz.prog 189 [.v (.str uw) [], .v (aI v0) []] (.v (.bool r) []) [] := by
 refine FnO.o2 Tryz.func189 rfl fun _ _ _ _ _ _ => ?_
 unfold Za3 at h
 refine Wc.s0 [0, 1] [] ?_
 refine Wc.seqJ (fun st => st = ⟨[tS 0 uw, tI 1 v0], [], []⟩ ∧ Z6q k v0 uw = some r) ?_ ?_
 ·obtain ⟨h24, h⟩ := Z4 h
  rcases oif h with ⟨h25, h⟩ | ⟨h25, h⟩
  ·refine Wc.s2 [{}, {}, {}, {}, rT] [0, 1, 19] [] (o2 h24 (cb h25)) ?_
   refine Wc.cT rfl ?_
   refine Wc.s0 [4] [] ?_
   cases h; exact Wc.ret dn
  rcases oif h with ⟨h26, h⟩ | ⟨h26, h⟩
  ·obtain ⟨h27, h⟩ := Z4 h
   obtain ⟨u33, h28, h⟩ := oc h fun _ => Zco
   refine Wc.s2 [{}, {}, {}, {}, rF, {}, {}, rT, {}, {}, {}, {}, hC h28] [0, 1, 19] [] (oC h24 (oC (cb h25) (oC (cb h26) (oC h27 (oC h28 AllP.nil))))) ?_
   refine Wc.ci h (fun _ h => ?_) (fun _ h => ?_)
   ·refine Wc.s0 [4] [] ?_
    cases h; exact Wc.ret dn
   refine Wc.ks [0, 1] [] ?_
   exact stB h
  refine Wc.s2 [{}, {}, {}, {}, rF, {}, {}, rF] [0, 1, 19] [] (o3 h24 (cb h25) (cb h26)) ?_
  refine Wc.cF rfl ?_
  refine Wc.ks [0, 1] [] ?_
  exact stB h
 rintro st ⟨rfl, h⟩
 rcases oif h with ⟨h20, h⟩ | ⟨h20, h⟩
 ·refine Wc.s2 [{}, {}, {}, {}, {}, rT] [4] [] (o1 (cb h20)) ?_
  cases h; exact Wc.ret dn
 obtain ⟨h21, h⟩ := Z4 h
 obtain ⟨uc, h22, h⟩ := oc h fun _ => Z7v
 refine Wc.s2 [{}, {}, {}, {}, {}, rF, {}, {}, {}, {}, hC h22] [4] [] (o3 (cb h20) h21 h22) ?_
 cases h; exact Wc.ret dn

def Zc1 (k : Nat) (v0 : Int) : Option Bool :=
 if (decide (v0 ≥ 97)) = true then
  some (decide (v0 ≤ 122))
 else
  some false
theorem Znk {k : Nat} {v0 : Int} {r : Bool} (h : Zc1 k v0 = some r) : FnO Tryz.prog 190 [.v (.int .u8 v0) []] (.v (.bool r) []) [] := by
 refine FnO.o2 Tryz.func190 rfl fun _ _ _ _ _ _ => ?_
 unfold Zc1 at h
 refine Wc.s0 [0] [] ?_
 rcases oif h with ⟨h23, h⟩ | ⟨h23, h⟩
 ·refine Wc.s2 [{}, {}, rT] [2] [] (o1 (cb h23)) ?_
  cases h; exact Wc.ret dn
 refine Wc.s2 [{}, {}, rF] [2] [] (o1 (cb h23)) ?_
 cases h; exact Wc.ret dn

def Zdy (k : Nat) (uc : Int) : Option Bool :=
 if (decide (uc ≥ 65)) = true then
  some (decide (uc ≤ 90))
 else
  some false
theorem Zsm {k : Nat} {uc : Int} {r : Bool} (h : Zdy k uc = some r) : FnO Tryz.prog 191 [.v (.int .u8 uc) []] (.v (.bool r) []) [] := by
 refine FnO.o2 Tryz.func191 rfl fun _ _ _ _ _ _ => ?_
 unfold Zdy at h
 refine Wc.s0 [0] [] ?_
 rcases oif h with ⟨h25, h⟩ | ⟨h25, h⟩
 ·refine Wc.s2 [{}, {}, rT] [2] [] (o1 (cb h25)) ?_
  cases h; exact Wc.ret dn
 refine Wc.s2 [{}, {}, rF] [2] [] (o1 (cb h25)) ?_
 cases h; exact Wc.ret dn

def Za2 (k : Nat) (vn : Int) : Option Bool :=
 if (decide (vn ≥ 48)) = true then
  some (decide (vn ≤ 57))
 else
  some false
theorem Zkf {k : Nat} {vn : Int} {r : Bool} (h : Za2 k vn = some r) : FnO Tryz.prog 193 [.v (.int .u8 vn) []] (.v (.bool r) []) [] := by
 refine FnO.o2 Tryz.func193 rfl fun _ _ _ _ _ _ => ?_
 unfold Za2 at h
 refine Wc.s0 [0] [] ?_
 rcases oif h with ⟨h30, h⟩ | ⟨h30, h⟩
 ·refine Wc.s2 [{}, {}, rT] [2] [] (o1 (cb h30)) ?_
  cases h; exact Wc.ret dn
 refine Wc.s2 [{}, {}, rF] [2] [] (o1 (cb h30)) ?_
 cases h; exact Wc.ret dn

def Z61 (k : Nat) (up : Int) : Option Bool :=
 (Zc1 k up).bind fun u1n =>
 if u1n = true then
  some true
 else
  (Zdy k up).bind fun u2e =>
  if u2e = true then
   some true
  else
   (Za2 k up).bind fun u3h =>
   if u3h = true then
    some true
   else
    some (up == 95)
theorem Zqy {k : Nat} {up : Int} {r : Bool} (h : Z61 k up = some r) : FnO Tryz.prog 192 [.v (.int .u8 up) []] (.v (.bool r) []) [] := by
 refine FnO.o2 Tryz.func192 rfl fun _ _ _ _ _ _ => ?_
 unfold Z61 at h
 refine Wc.s0 [0] [] ?_
 obtain ⟨u1n, h26, h⟩ := oc h fun _ => Znk
 rcases oif h with ⟨h27, h⟩ | ⟨h27, h⟩
 ·refine Wc.s2 [{}, hC h26, rT] [2] [] (o2 h26 (cb h27)) ?_
  cases h; exact Wc.ret dn
 obtain ⟨u2e, h28, h⟩ := oc h fun _ => Zsm
 rcases oif h with ⟨h29, h⟩ | ⟨h29, h⟩
 ·refine Wc.s2 [{}, hC h26, rF, {}, hC h28, {}, rT] [2] [] (o4 h26 (cb h27) h28 (cb h29)) ?_
  cases h; exact Wc.ret dn
 obtain ⟨u3h, h30, h⟩ := oc h fun _ => Zkf
 rcases oif h with ⟨h31, h⟩ | ⟨h31, h⟩
 ·refine Wc.s2 [{}, hC h26, rF, {}, hC h28, {}, rF, {}, hC h30, {}, rT] [2] [] (oC h26 (oC (cb h27) (oC h28 (oC (cb h29) (oC h30 (oC (cb h31) AllP.nil)))))) ?_
  cases h; exact Wc.ret dn
 refine Wc.s2 [{}, hC h26, rF, {}, hC h28, {}, rF, {}, hC h30, {}, rF] [2] [] (oC h26 (oC (cb h27) (oC h28 (oC (cb h29) (oC h30 (oC (cb h31) AllP.nil)))))) ?_
 cases h; exact Wc.ret dn

def Z2j (k : Nat) (u0n : ByteArray) : Nat → Int → Option (Out Int Int)
 | 0, _ => none
 | m + 1, u4 =>
  if (decide (u4 < (u0n.size : Int))) = true then
   if 0 ≤ u4 ∧ (u4).toNat < u0n.size then
    (Z61 k (bt u0n u4)).bind fun u1n =>
    if u1n = true then
     Z2j k u0n m (wr.i64 (u4 + 1))
    else
     some (.done u4)
   else none
  else
   some (.done u4)
def Z4e (k : Nat) (u0n : ByteArray) (va : Int) : Option Int :=
 (Z2j k u0n k va).bind fun out1 => match out1 with
 | .ret r => some r
 | .done up =>
  some up
theorem Zd0 {k : Nat} {u0n : ByteArray} {va : Int} {r : Int} (h : Z4e k u0n va = some r) : FnO Tryz.prog 184 [.v (.str u0n) [], .v (aI va) [], .v (.func 192 []) []] (.v (aI r) []) [] := by
 refine FnO.o2 Tryz.func184 rfl fun _ _ _ _ _ _ => ?_
 unfold Z4e at h
 refine Wc.s0 [0, 1, 2] [] ?_
 obtain ⟨out1, h24, h⟩ := Z2d h
 refine Wc.seqJ (fun st => ∃ (up : Int), out1 = .done up ∧ st = ⟨[tI 1 up], [], []⟩) ?_ ?_
 ·apply Wc.block
  refine Wc.loop (fun m st => ∃ (u4 : Int), st = ⟨[tS 0 u0n, tI 1 u4, tV 2 (.func 192 [])], [], []⟩ ∧ Z2j k u0n m u4 = some out1) ?_ k ⟨_, stB h24⟩
  rintro m st ⟨u4, rfl, h24⟩
  rcases m with _ | m
  ·exact (Zk h24).elim
  apply Wc.seq
  rcases oif h24 with ⟨h25, h24⟩ | ⟨h25, h24⟩
  ·obtain ⟨h26, h24⟩ := Z4 h24
   obtain ⟨u1n, h27, h24⟩ := oc h24 fun _ => Zqy
   refine Wc.s2 [{}, {}, {}, {}, rT, {}, {}, {}, {}, hC h27] [0, 1, 2, 17] [] (o3 (cb h25) h26 h27) ?_
   refine Wc.ci h24 (fun _ h24 => ?_) (fun _ h24 => ?_)
   ·refine Wc.ks [0, 1, 2] [] ?_
    apply Wc.block
    refine Wc.k0 [0, 1, 2] [] ?_
    exact ⟨_, Nat.lt_succ_self _, _, stB h24⟩
   refine Wc.ke [1] [] ?_
   cases h24; exact ⟨_, rfl, by kernel_rfl⟩
  refine Wc.s2 [{}, {}, {}, {}, rF] [0, 1, 2, 17] [] (o1 (cb h25)) ?_
  refine Wc.cF rfl ?_
  refine Wc.ke [1] [] ?_
  cases h24; exact ⟨_, rfl, by kernel_rfl⟩
 rintro st ⟨up, rfl, rfl⟩
 refine Wc.s0 [6] [] ?_
 cases h; exact Wc.ret dn

def Z2w (k : Nat) (vt : ByteArray) : Nat → Int → Option (Out Int Int)
 | 0, _ => none
 | m + 1, vf =>
  if (decide (vf < (vt.size : Int))) = true then
   if 0 ≤ vf ∧ (vf).toNat < vt.size then
    (Za2 k (bt vt vf)).bind fun u32 =>
    if u32 = true then
     Z2w k vt m (wr.i64 (vf + 1))
    else
     some (.done vf)
   else none
  else
   some (.done vf)
def Z4t (k : Nat) (vt : ByteArray) (v7 : Int) : Option Int :=
 (Z2w k vt k v7).bind fun out1 => match out1 with
 | .ret r => some r
 | .done vn =>
  some vn
theorem Zef {k : Nat} {vt : ByteArray} {v7 : Int} {r : Int} (h : Z4t k vt v7 = some r) : FnO Tryz.prog 184 [.v (.str vt) [], .v (aI v7) [], .v (.func 193 []) []] (.v (aI r) []) [] := by
 refine FnO.o2 Tryz.func184 rfl fun _ _ _ _ _ _ => ?_
 unfold Z4t at h
 refine Wc.s0 [0, 1, 2] [] ?_
 obtain ⟨out1, h32, h⟩ := Z2d h
 refine Wc.seqJ (fun st => ∃ (vn : Int), out1 = .done vn ∧ st = ⟨[tI 1 vn], [], []⟩) ?_ ?_
 ·apply Wc.block
  refine Wc.loop (fun m st => ∃ (vf : Int), st = ⟨[tS 0 vt, tI 1 vf, tV 2 (.func 193 [])], [], []⟩ ∧ Z2w k vt m vf = some out1) ?_ k ⟨_, stB h32⟩
  rintro m st ⟨vf, rfl, h32⟩
  rcases m with _ | m
  ·exact (Zk h32).elim
  apply Wc.seq
  rcases oif h32 with ⟨h33, h32⟩ | ⟨h33, h32⟩
  ·obtain ⟨h34, h32⟩ := Z4 h32
   obtain ⟨u32, h35, h32⟩ := oc h32 fun _ => Zkf
   refine Wc.s2 [{}, {}, {}, {}, rT, {}, {}, {}, {}, hC h35] [0, 1, 2, 17] [] (o3 (cb h33) h34 h35) ?_
   refine Wc.ci h32 (fun _ h32 => ?_) (fun _ h32 => ?_)
   ·refine Wc.ks [0, 1, 2] [] ?_
    apply Wc.block
    refine Wc.k0 [0, 1, 2] [] ?_
    exact ⟨_, Nat.lt_succ_self _, _, stB h32⟩
   refine Wc.ke [1] [] ?_
   cases h32; exact ⟨_, rfl, by kernel_rfl⟩
  refine Wc.s2 [{}, {}, {}, {}, rF] [0, 1, 2, 17] [] (o1 (cb h33)) ?_
  refine Wc.cF rfl ?_
  refine Wc.ke [1] [] ?_
  cases h32; exact ⟨_, rfl, by kernel_rfl⟩
 rintro st ⟨vn, rfl, rfl⟩
 refine Wc.s0 [6] [] ?_
 cases h; exact Wc.ret dn

def Z27 (k : Nat) (ur : ByteArray) : Nat → Int → Option (Out Int Int)
 | 0, _ => none
 | m + 1, u08 =>
  if (decide (u08 < (ur.size : Int))) = true then
   if 0 ≤ u08 ∧ (u08).toNat < ur.size then
    (Z5c k (bt ur u08)).bind fun u0s =>
    if u0s = true then
     Z27 k ur m (wr.i64 (u08 + 1))
    else
     some (.done u08)
   else none
  else
   some (.done u08)
def Z3l (k : Nat) (ur : ByteArray) (z2 : Int) : Option Int :=
 (Z27 k ur k z2).bind fun out1 => match out1 with
 | .ret r => some r
 | .done u3o =>
  some u3o
theorem Zbv {k : Nat} {ur : ByteArray} {z2 : Int} {r : Int} (h : Z3l k ur z2 = some r) : FnO Tryz.prog 184 [.v (.str ur) [], .v (aI z2) [], .v (.func 194 []) []] (.v (aI r) []) [] := by
 refine FnO.o2 Tryz.func184 rfl fun _ _ _ _ _ _ => ?_
 unfold Z3l at h
 refine Wc.s0 [0, 1, 2] [] ?_
 obtain ⟨out1, h42, h⟩ := Z2d h
 refine Wc.seqJ (fun st => ∃ (u3o : Int), out1 = .done u3o ∧ st = ⟨[tI 1 u3o], [], []⟩) ?_ ?_
 ·apply Wc.block
  refine Wc.loop (fun m st => ∃ (u08 : Int), st = ⟨[tS 0 ur, tI 1 u08, tV 2 (.func 194 [])], [], []⟩ ∧ Z27 k ur m u08 = some out1) ?_ k ⟨_, stB h42⟩
  rintro m st ⟨u08, rfl, h42⟩
  rcases m with _ | m
  ·exact (Zk h42).elim
  apply Wc.seq
  rcases oif h42 with ⟨h43, h42⟩ | ⟨h43, h42⟩
  ·obtain ⟨h44, h42⟩ := Z4 h42
   obtain ⟨u0s, h45, h42⟩ := oc h42 fun _ => Zco
   refine Wc.s2 [{}, {}, {}, {}, rT, {}, {}, {}, {}, hC h45] [0, 1, 2, 17] [] (o3 (cb h43) h44 h45) ?_
   refine Wc.ci h42 (fun _ h42 => ?_) (fun _ h42 => ?_)
   ·refine Wc.ks [0, 1, 2] [] ?_
    apply Wc.block
    refine Wc.k0 [0, 1, 2] [] ?_
    exact ⟨_, Nat.lt_succ_self _, _, stB h42⟩
   refine Wc.ke [1] [] ?_
   cases h42; exact ⟨_, rfl, by kernel_rfl⟩
  refine Wc.s2 [{}, {}, {}, {}, rF] [0, 1, 2, 17] [] (o1 (cb h43)) ?_
  refine Wc.cF rfl ?_
  refine Wc.ke [1] [] ?_
  cases h42; exact ⟨_, rfl, by kernel_rfl⟩
 rintro st ⟨u3o, rfl, rfl⟩
 refine Wc.s0 [6] [] ?_
 cases h; exact Wc.ret dn

def Zc0 (k : Nat) (za : Int) : Option Bool :=
 (Z35 k (wr.i64 za) 33 126).bind fun u0g =>
 if u0g = true then
  if (za != 39) = true then
   some (za != 34)
  else
   some false
 else
  some false
theorem Znj {k : Nat} {za : Int} {r : Bool} (h : Zc0 k za = some r) : FnO Tryz.prog 196 [.v (.int .u8 za) []] (.v (.bool r) []) [] := by
 refine FnO.o2 Tryz.func196 rfl fun _ _ _ _ _ _ => ?_
 unfold Zc0 at h
 refine Wc.s0 [0] [] ?_
 obtain ⟨u0g, h51, h⟩ := oc h fun _ => Z4q
 rcases oif h with ⟨h52, h⟩ | ⟨h52, h⟩
 ·rcases oif h with ⟨h53, h⟩ | ⟨h53, h⟩
  ·refine Wc.s2 [{}, {}, hC h51, rT, {}, {}, {}, rT] [2] [] (o3 h51 (cb h52) (cb h53)) ?_
   cases h; exact Wc.ret dn
  refine Wc.s2 [{}, {}, hC h51, rT, {}, {}, {}, rF] [2] [] (o3 h51 (cb h52) (cb h53)) ?_
  cases h; exact Wc.ret dn
 refine Wc.s2 [{}, {}, hC h51, rF] [2] [] (o2 h51 (cb h52)) ?_
 cases h; exact Wc.ret dn

def Z45 (k : Nat) (zt : ByteArray) : Nat → Int → Option (Out Int Int)
 | 0, _ => none
 | m + 1, u2i =>
  if (decide (u2i < (zt.size : Int))) = true then
   if 0 ≤ u2i ∧ (u2i).toNat < zt.size then
    (Zc0 k (bt zt u2i)).bind fun u0g =>
    if u0g = true then
     Z45 k zt m (wr.i64 (u2i + 1))
    else
     some (.done u2i)
   else none
  else
   some (.done u2i)
def Z51 (k : Nat) (zt : ByteArray) (u2v : Int) : Option Int :=
 (Z45 k zt k u2v).bind fun out1 => match out1 with
 | .ret r => some r
 | .done za =>
  some za
theorem Zbu {k : Nat} {zt : ByteArray} {u2v : Int} {r : Int} (h : Z51 k zt u2v = some r) : FnO Tryz.prog 184 [.v (.str zt) [], .v (aI u2v) [], .v (.func 196 []) []] (.v (aI r) []) [] := by
 refine FnO.o2 Tryz.func184 rfl fun _ _ _ _ _ _ => ?_
 unfold Z51 at h
 refine Wc.s0 [0, 1, 2] [] ?_
 obtain ⟨out1, h49, h⟩ := Z2d h
 refine Wc.seqJ (fun st => ∃ (za : Int), out1 = .done za ∧ st = ⟨[tI 1 za], [], []⟩) ?_ ?_
 ·apply Wc.block
  refine Wc.loop (fun m st => ∃ (u2i : Int), st = ⟨[tS 0 zt, tI 1 u2i, tV 2 (.func 196 [])], [], []⟩ ∧ Z45 k zt m u2i = some out1) ?_ k ⟨_, stB h49⟩
  rintro m st ⟨u2i, rfl, h49⟩
  rcases m with _ | m
  ·exact (Zk h49).elim
  apply Wc.seq
  rcases oif h49 with ⟨h50, h49⟩ | ⟨h50, h49⟩
  ·obtain ⟨h51, h49⟩ := Z4 h49
   obtain ⟨u0g, h52, h49⟩ := oc h49 fun _ => Znj
   refine Wc.s2 [{}, {}, {}, {}, rT, {}, {}, {}, {}, hC h52] [0, 1, 2, 17] [] (o3 (cb h50) h51 h52) ?_
   refine Wc.ci h49 (fun _ h49 => ?_) (fun _ h49 => ?_)
   ·refine Wc.ks [0, 1, 2] [] ?_
    apply Wc.block
    refine Wc.k0 [0, 1, 2] [] ?_
    exact ⟨_, Nat.lt_succ_self _, _, stB h49⟩
   refine Wc.ke [1] [] ?_
   cases h49; exact ⟨_, rfl, by kernel_rfl⟩
  refine Wc.s2 [{}, {}, {}, {}, rF] [0, 1, 2, 17] [] (o1 (cb h50)) ?_
  refine Wc.cF rfl ?_
  refine Wc.ke [1] [] ?_
  cases h49; exact ⟨_, rfl, by kernel_rfl⟩
 rintro st ⟨za, rfl, rfl⟩
 refine Wc.s0 [6] [] ?_
 cases h; exact Wc.ret dn

def Z5p (k : Nat) (u7 : Int) (ug : ByteArray) (u0i : Gn) (uy : Int) (ze : Bool) : Option (Gn × Int) :=
 if ze = true then
  if 0 ≤ u7 ∧ u7 ≤ (wr.i64 (u7 + 1)) ∧ (wr.i64 (u7 + 1)) ≤ (ug.size : Int) then
   some (Gn.mk 6 (ug.extract (u7 : Int).toNat ((wr.i64 (u7 + 1)) : Int).toNat) u0i.gj u0i.gAt u0i.gQ, wr.i64 (u7 + 1))
  else none
 else
  some (Gn.mk u0i.gi (ug.extract (u7 : Int).toNat (uy : Int).toNat) u0i.gj u0i.gAt u0i.gQ, uy)
def Z29 (k : Nat) (u7 : Int) (ug : ByteArray) (uy : Int) (u0i : Gn) : Option (Gn × Int) :=
 if 0 ≤ u7 ∧ u7 ≤ uy ∧ uy ≤ (ug.size : Int) then
  if (u0i.gi == 0) = true then
   Z5p k u7 ug u0i uy true
  else
   if (u0i.gi != 4) = true then
    Z5p k u7 ug u0i uy (decide (((ug.extract (u7 : Int).toNat (uy : Int).toNat).size : Int) > 20))
   else
    Z5p k u7 ug u0i uy false
 else none
def Z6n (k : Nat) (vn : Int) (ug : ByteArray) : Nat → Int → Int → Option (Out (Gn × Int) Int)
 | 0, _, _ => none
 | m + 1, uu, vo =>
  if (decide (vo < vn)) = true then
   if (decide (uu ≤ 999999999)) = true then
    if 0 ≤ vo ∧ (vo).toNat < ug.size then
     Z6n k vn ug m (wr.i64 ((wr.i64 (10 * uu)) + (wr.i64 (wr.u8 ((bt ug vo) - 48))))) (wr.i64 (vo + 1))
    else none
   else
    some (.done uu)
  else
   some (.done uu)
def Z8f (k : Nat) (u7 : Int) (za : Int) (ug : ByteArray) (u0g : Bool) : Option (Gn × Int) :=
 if u0g = true then
  if 0 ≤ (wr.i64 (u7 + 1)) ∧ (wr.i64 (u7 + 1)) ≤ za ∧ za ≤ (ug.size : Int) then
   some (Gn.mk 1 (ug.extract ((wr.i64 (u7 + 1)) : Int).toNat (za : Int).toNat) 0 u7 false, wr.i64 (za + 1))
  else none
 else
  Z29 k u7 ug (wr.i64 (u7 + 1)) (Gn.mk 0 (bs []) 0 u7 false)
def Z6o (k : Nat) (u7 : Int) (ug : ByteArray) (u0s : Bool) : Option (Gn × Int) :=
 if u0s = true then
  Z29 k u7 ug (wr.i64 (u7 + 1)) (Gn.mk 1 (bs []) 0 u7 false)
 else
  (Z3g k (bs [40, 41, 91, 93, 44, 124]) (bt ug u7)).bind fun u2i =>
  if (decide (u2i ≥ 0)) = true then
   Z29 k u7 ug (wr.i64 (u7 + 1)) (Gn.mk 4 (bs []) 0 u7 false)
  else
   if ((bt ug u7) == 39) = true then
    (Z51 k ug (wr.i64 (u7 + 1))).bind fun za =>
    if (decide (za < (ug.size : Int))) = true then
     if 0 ≤ za ∧ (za).toNat < ug.size then
      if ((bt ug za) == 39) = true then
       (Z35 k (wr.i64 ((wr.i64 (za - u7)) - 1)) 1 20).bind fun u2d =>
       Z8f k u7 za ug u2d
      else
       Z8f k u7 za ug false
     else none
    else
     Z8f k u7 za ug false
   else
    Z29 k u7 ug (wr.i64 (u7 + 1)) (Gn.mk 0 (bs []) 0 u7 false)
def Z5o (k : Nat) (ug : ByteArray) (u7 : Int) (u0u : Bool) : Option (Gn × Int) :=
 if u0u = true then
  (Z4e k ug u7).bind fun up =>
  (Zc1 k (bt ug u7)).bind fun u1n =>
  if u1n = true then
   Z29 k u7 ug up (Gn.mk 1 (bs []) 0 u7 false)
  else
   Z29 k u7 ug up (Gn.mk 2 (bs []) 0 u7 false)
 else
  (Za2 k (bt ug u7)).bind fun u2e =>
  if u2e = true then
   (Z4t k ug u7).bind fun vn =>
   (Z6n k vn ug k 0 u7).bind fun out4 => match out4 with
   | .ret r => some r
   | .done z2 =>
    if (decide (z2 ≤ 999999999)) = true then
     some (Gn.mk 3 (bs []) z2 u7 false, vn)
    else
     Z29 k u7 ug vn (Gn.mk 0 (bs []) 0 u7 false)
  else
   (Z5c k (bt ug u7)).bind fun u2b =>
   if u2b = true then
    (Z3l k ug u7).bind fun u3o =>
    Z29 k u7 ug u3o (Gn.mk 1 (bs []) 0 u7 false)
   else
    if ((bt ug u7) == 33) = true then
     Z6o k u7 ug true
    else
     Z6o k u7 ug ((bt ug u7) == 59)
def Z9z (k : Nat) (ug : ByteArray) (u7 : Int) : Option (Gn × Int) :=
 if 0 ≤ u7 ∧ (u7).toNat < ug.size then
  (Za3 k ug u7).bind fun u33 =>
  if u33 = true then
   some (Gn.mk 5 (bs [46]) 0 u7 false, wr.i64 (u7 + 1))
  else
   (Zc1 k (bt ug u7)).bind fun u60 =>
   if u60 = true then
    Z5o k ug u7 true
   else
    (Zdy k (bt ug u7)).bind fun u61 =>
    if u61 = true then
     Z5o k ug u7 true
    else
     Z5o k ug u7 ((bt ug u7) == 95)
 else none
theorem Zr0 {k : Nat} {ug : ByteArray} {u7 : Int} {r : Gn × Int} (h : Z9z k ug u7 = some r) : FnO Tryz.prog 186 [.v (.str ug) [], .v (aI u7) []] (.v (.tup [.agg (Gn.q r.1), aI r.2]) []) [] := by
 refine FnO.o2 Tryz.func186 rfl fun _ _ _ _ _ _ => ?_
 unfold Z9z at h
 refine Wc.s0 [0, 1, 4] [4] ?_
 obtain ⟨h19, h⟩ := Z4 h
 refine Wc.s2 [] [0, 1, 4, 6] [4] (o1 h19) ?_
 refine Wc.s0 [0, 1, 4, 6, 7] [4, 7] ?_
 refine Wc.s0 [0, 1, 4, 6, 7, 8] [4, 7] ?_
 refine Wc.seqJ (fun st => ∃ (uy : Int) (u0i : Gn), st = ⟨[tS 0 ug, tI 1 u7, tP 4 4, tP 7 7, tI 8 uy], [bC 4 Gn.z, bC 7 (Gn.q u0i)], []⟩ ∧ Z29 k u7 ug uy u0i = some r) ?_ ?_
 ·apply Wc.block
  obtain ⟨u33, h25, h⟩ := oc h fun _ => Zr2
  refine Wc.s2 [{}, {}, hC h25] [0, 1, 4, 6, 7, 8, 19] [4, 7] (o1 h25) ?_
  refine Wc.ci h (fun _ h => ?_) (fun _ h => ?_)
  ·refine Wc.s0 [4, 7, 8] [4, 7] ?_
   refine Wc.s0 [4, 5] [4] ?_
   cases h; exact Wc.ret dn
  refine Wc.seqJ (fun st => ∃ (u0u : Bool), st = ⟨[tS 0 ug, tI 1 u7, tP 4 4, tV 6 (.int .u8 (bt ug u7)), tP 7 7, tI 8 (wr.i64 (u7 + 1)), tB 27 u0u], [bC 4 Gn.z, bC 7 [aI 0, .str (bs []), aI 0, aI u7, .bool false]], []⟩ ∧ Z5o k ug u7 u0u = some r) ?_ ?_
  ·obtain ⟨u60, h64, h⟩ := oc h fun _ => Znk
   rcases oif h with ⟨h65, h⟩ | ⟨h65, h⟩
   ·refine Wc.k2 [{}, hC h64, rT] [0, 1, 4, 6, 7, 8, 27] [4, 7] (o2 h64 (cb h65)) ?_
    exact ⟨_, stB h⟩
   obtain ⟨u61, h66, h⟩ := oc h fun _ => Zsm
   rcases oif h with ⟨h67, h⟩ | ⟨h67, h⟩
   ·refine Wc.k2 [{}, hC h64, rF, {}, hC h66, {}, rT] [0, 1, 4, 6, 7, 8, 27] [4, 7] (o4 h64 (cb h65) h66 (cb h67)) ?_
    exact ⟨_, stB h⟩
   refine Wc.k2 [{}, hC h64, rF, {}, hC h66, {}, rF] [0, 1, 4, 6, 7, 8, 27] [4, 7] (o4 h64 (cb h65) h66 (cb h67)) ?_
   exact ⟨_, stB h⟩
  rintro st ⟨u0u, rfl, h⟩
  refine Wc.ci h (fun _ h => ?_) (fun _ h => ?_)
  ·obtain ⟨up, h29, h⟩ := oc h fun _ => Zd0
   refine Wc.s2 [{}, {}, hC h29] [0, 1, 4, 6, 7, 8] [4, 7] (o1 h29) ?_
   refine Wc.s0 [0, 1, 4, 6, 7, 8] [4, 7] ?_
   obtain ⟨u1n, h31, h⟩ := oc h fun _ => Znk
   refine Wc.s2 [{}, hC h31] [0, 1, 4, 7, 8, 43] [4, 7] (o1 h31) ?_
   refine Wc.ci h (fun _ h => ?_) (fun _ h => ?_)
   ·refine Wc.k0 [0, 1, 4, 7, 8] [4, 7] ?_
    exact ⟨_, _, stB h⟩
   refine Wc.ks [0, 1, 4, 7, 8] [4, 7] ?_
   exact ⟨_, _, stB h⟩
  obtain ⟨u2e, h34, h⟩ := oc h fun _ => Zkf
  refine Wc.s2 [{}, hC h34] [0, 1, 4, 6, 7, 8, 45] [4, 7] (o1 h34) ?_
  refine Wc.ci h (fun _ h => ?_) (fun _ h => ?_)
  ·obtain ⟨vn, h37, h⟩ := oc h fun _ => Zef
   refine Wc.s2 [{}, {}, hC h37] [0, 1, 4, 7, 8] [4, 7] (o1 h37) ?_
   refine Wc.s0 [0, 1, 4, 7, 8, 9] [4, 7] ?_
   apply Wc.seq
   refine Wc.s0 [0, 1, 4, 7, 8, 9, 10] [4, 7] ?_
   obtain ⟨out4, h39, h⟩ := Z2d h
   refine Wc.lastJ (fun st => ∃ (z2 : Int), out4 = .done z2 ∧ st = ⟨[tS 0 ug, tI 1 u7, tP 4 4, tP 7 7, tI 8 vn, tI 9 z2], [bC 4 Gn.z, bC 7 [aI 0, .str (bs []), aI 0, aI u7, .bool false]], []⟩) ?_ ?_
   ·apply Wc.block
    refine Wc.loop (fun m st => ∃ (uu : Int) (vo : Int), st = ⟨[tS 0 ug, tI 1 u7, tP 4 4, tP 7 7, tI 8 vn, tI 9 uu, tI 10 vo], [bC 4 Gn.z, bC 7 [aI 0, .str (bs []), aI 0, aI u7, .bool false]], []⟩ ∧ Z6n k vn ug m uu vo = some out4) ?_ k ⟨_, _, stB h39⟩
    rintro m st ⟨uu, vo, rfl, h39⟩
    rcases m with _ | m
    ·exact (Zk h39).elim
    apply Wc.seq
    rcases oif h39 with ⟨h40, h39⟩ | ⟨h40, h39⟩
    ·refine Wc.s2 [{}, {}, {}, rT] [0, 1, 4, 7, 8, 9, 10, 58] [4, 7] (o1 (cb h40)) ?_
     refine Wc.ci h39 (fun _ h39 => ?_) (fun _ h39 => ?_)
     ·refine Wc.ks [0, 1, 4, 7, 8, 9, 10] [4, 7] ?_
      apply Wc.seq
      apply Wc.block
      obtain ⟨h42, h39⟩ := Z4 h39
      refine Wc.k2 [] [0, 1, 4, 7, 8, 9, 10] [4, 7] (o1 h42) ?_
      refine Wc.k0 [0, 1, 4, 7, 8, 9, 10] [4, 7] ?_
      exact ⟨_, Nat.lt_succ_self _, _, _, stB h39⟩
     refine Wc.ke [0, 1, 4, 7, 8, 9] [4, 7] ?_
     cases h39; exact ⟨_, rfl, by kernel_rfl⟩
    refine Wc.s2 [{}, {}, {}, rF] [0, 1, 4, 7, 8, 9, 10, 58] [4, 7] (o1 (cb h40)) ?_
    refine Wc.cF rfl ?_
    refine Wc.ke [0, 1, 4, 7, 8, 9] [4, 7] ?_
    cases h39; exact ⟨_, rfl, by kernel_rfl⟩
   rintro st ⟨z2, rfl, rfl⟩
   refine Wc.s0 [0, 1, 4, 7, 8, 9, 70] [4, 7] ?_
   refine Wc.ci h (fun _ h => ?_) (fun _ h => ?_)
   ·refine Wc.s0 [4, 7, 8] [4, 7] ?_
    refine Wc.s0 [4, 5] [4] ?_
    cases h; exact Wc.ret dn
   refine Wc.ks [0, 1, 4, 7, 8] [4, 7] ?_
   exact ⟨_, _, stB h⟩
  obtain ⟨u2b, h44, h⟩ := oc h fun _ => Zco
  refine Wc.s2 [{}, hC h44] [0, 1, 4, 6, 7, 8, 76] [4, 7] (o1 h44) ?_
  refine Wc.ci h (fun _ h => ?_) (fun _ h => ?_)
  ·obtain ⟨u3o, h47, h⟩ := oc h fun _ => Zbv
   refine Wc.s2 [{}, {}, hC h47] [0, 1, 4, 7, 8] [4, 7] (o1 h47) ?_
   refine Wc.k0 [0, 1, 4, 7, 8] [4, 7] ?_
   exact ⟨_, _, stB h⟩
  refine Wc.seqJ (fun st => ∃ (u0s : Bool), st = ⟨[tS 0 ug, tI 1 u7, tP 4 4, tV 6 (.int .u8 (bt ug u7)), tP 7 7, tI 8 (wr.i64 (u7 + 1)), tB 83 u0s], [bC 4 Gn.z, bC 7 [aI 0, .str (bs []), aI 0, aI u7, .bool false]], []⟩ ∧ Z6o k u7 ug u0s = some r) ?_ ?_
  ·rcases oif h with ⟨h63, h⟩ | ⟨h63, h⟩
   ·refine Wc.k2 [{}, {}, rT] [0, 1, 4, 6, 7, 8, 83] [4, 7] (o1 (cb h63)) ?_
    exact ⟨_, stB h⟩
   refine Wc.k2 [{}, {}, rF] [0, 1, 4, 6, 7, 8, 83] [4, 7] (o1 (cb h63)) ?_
   exact ⟨_, stB h⟩
  rintro st ⟨u0s, rfl, h⟩
  refine Wc.ci h (fun _ h => ?_) (fun _ h => ?_)
  ·refine Wc.k0 [0, 1, 4, 7, 8] [4, 7] ?_
   exact ⟨_, _, stB h⟩
  obtain ⟨u2i, h50, h⟩ := oc h fun _ => Z7v
  refine Wc.s2 [{}, hC h50] [0, 1, 4, 6, 7, 8, 91] [4, 7] (o1 h50) ?_
  refine Wc.ci h (fun _ h => ?_) (fun _ h => ?_)
  ·refine Wc.k0 [0, 1, 4, 7, 8] [4, 7] ?_
   exact ⟨_, _, stB h⟩
  refine Wc.s0 [0, 1, 4, 7, 8, 96] [4, 7] ?_
  refine Wc.ci h (fun _ h => ?_) (fun _ h => ?_)
  ·obtain ⟨za, h54, h⟩ := oc h fun _ => Zbu
   refine Wc.s2 [{}, {}, {}, hC h54] [0, 1, 4, 7, 8, 11] [4, 7] (o1 h54) ?_
   refine Wc.seqJ (fun st => ∃ (u0g : Bool), st = ⟨[tS 0 ug, tI 1 u7, tP 4 4, tP 7 7, tI 8 (wr.i64 (u7 + 1)), tI 11 za, tB 119 u0g], [bC 4 Gn.z, bC 7 [aI 0, .str (bs []), aI 0, aI u7, .bool false]], []⟩ ∧ Z8f k u7 za ug u0g = some r) ?_ ?_
   ·rcases oif h with ⟨h58, h⟩ | ⟨h58, h⟩
    ·obtain ⟨h59, h⟩ := Z4 h
     rcases oif h with ⟨h60, h⟩ | ⟨h60, h⟩
     ·obtain ⟨u2d, h61, h⟩ := oc h fun _ => Z4q
      refine Wc.k2 [{}, {}, {}, {}, rT, {}, {}, {}, {}, {}, rT, {}, {}, {}, {}, hC h61] [0, 1, 4, 7, 8, 11, 119] [4, 7] (o4 (cb h58) h59 (cb h60) h61) ?_
      exact ⟨_, stB h⟩
     refine Wc.k2 [{}, {}, {}, {}, rT, {}, {}, {}, {}, {}, rF] [0, 1, 4, 7, 8, 11, 119] [4, 7] (o3 (cb h58) h59 (cb h60)) ?_
     exact ⟨_, stB h⟩
    refine Wc.k2 [{}, {}, {}, {}, rF] [0, 1, 4, 7, 8, 11, 119] [4, 7] (o1 (cb h58)) ?_
    exact ⟨_, stB h⟩
   rintro st ⟨u0g, rfl, h⟩
   refine Wc.ci h (fun _ h => ?_) (fun _ h => ?_)
   ·apply Wc.seq
    obtain ⟨h57, h⟩ := Z4 h
    refine Wc.dk hmix [] [] [4, 7, 11] [4, 7] [] (o1 h57) ?_
    refine Wc.s0 [4, 5] [4] ?_
    cases h; exact Wc.ret dn
   refine Wc.ks [0, 1, 4, 7, 8] [4, 7] ?_
   exact ⟨_, _, stB h⟩
  refine Wc.ks [0, 1, 4, 7, 8] [4, 7] ?_
  exact ⟨_, _, stB h⟩
 rintro st ⟨uy, u0i, rfl, h⟩
 obtain ⟨h20, h⟩ := Z4 h
 refine Wc.s2 [] [0, 1, 4, 7, 8] [4, 7] (o1 h20) ?_
 apply Wc.seq
 refine Wc.seqJ (fun st => ∃ (ze : Bool), st = ⟨[tS 0 ug, tI 1 u7, tP 4 4, tP 7 7, tI 8 uy, tB 148 ze], [bC 4 Gn.z, bC 7 [aI u0i.gi, .str (ug.extract (u7 : Int).toNat (uy : Int).toNat), aI u0i.gj, aI u0i.gAt, .bool u0i.gQ]], []⟩ ∧ Z5p k u7 ug u0i uy ze = some r) ?_ ?_
 ·rcases oif h with ⟨h23, h⟩ | ⟨h23, h⟩
  ·refine Wc.k2 [{}, {}, {}, rT] [0, 1, 4, 7, 8, 148] [4, 7] (o1 (cb h23)) ?_
   exact ⟨_, stB h⟩
  rcases oif h with ⟨h24, h⟩ | ⟨h24, h⟩
  ·refine Wc.k2 [{}, {}, {}, rF, {}, {}, {}, rT] [0, 1, 4, 7, 8, 148] [4, 7] (o2 (cb h23) (cb h24)) ?_
   exact ⟨_, stB h⟩
  refine Wc.k2 [{}, {}, {}, rF, {}, {}, {}, rF] [0, 1, 4, 7, 8, 148] [4, 7] (o2 (cb h23) (cb h24)) ?_
  exact ⟨_, stB h⟩
 rintro st ⟨ze, rfl, h⟩
 refine Wc.ci h (fun _ h => ?_) (fun _ h => ?_)
 ·apply Wc.seq
  obtain ⟨h22, h⟩ := Z4 h
  refine Wc.dk hmix [] [] [1, 4, 7] [4, 7] [] (o1 h22) ?_
  refine Wc.k0 [4, 7, 8] [4, 7] ?_
  refine Wc.s0 [4, 5] [4] ?_
  cases h; exact Wc.ret dn
 refine Wc.ks [4, 7, 8] [4, 7] ?_
 refine Wc.s0 [4, 5] [4] ?_
 cases h; exact Wc.ret dn

def Z7d (k : Nat) (bk_ : (List Gn) → Int → Option (Out ((List Gn) × Bool) (List Gn))) (u10 : List Gn) (uc : Int) (uw : ByteArray) (u0u : Bool) : Option (Out ((List Gn) × Bool) (List Gn)) :=
 if u0u = true then
  bk_ u10 (wr.i64 (uc + 1))
 else
  if ((bt uw uc) == 37) = true then
   (Z3w k uw uc).bind fun up =>
   bk_ u10 up
  else
   (Z9z k uw uc).bind fun vl =>
   if (decide (vl.2 < (uw.size : Int))) = true then
    if 0 ≤ vl.2 ∧ (vl.2).toNat < uw.size then
     if u10.length + [Gn.mk vl.1.gi vl.1.gE vl.1.gj vl.1.gAt ((bt uw vl.2) == 40)].length ≤ 1073741824 then
      bk_ (u10 ++ [Gn.mk vl.1.gi vl.1.gE vl.1.gj vl.1.gAt ((bt uw vl.2) == 40)]) vl.2
     else none
    else none
   else
    if u10.length + [Gn.mk vl.1.gi vl.1.gE vl.1.gj vl.1.gAt false].length ≤ 1073741824 then
     bk_ (u10 ++ [Gn.mk vl.1.gi vl.1.gE vl.1.gj vl.1.gAt false]) vl.2
    else none
def Z4n (k : Nat) (uw : ByteArray) : Nat → (List Gn) → Int → Option (Out ((List Gn) × Bool) (List Gn))
 | 0, _, _ => none
 | m + 1, u10, uc =>
  if (decide (uc < (uw.size : Int))) = true then
   if 0 ≤ uc ∧ (uc).toNat < uw.size then
    if ((bt uw uc) == 32) = true then
     Z7d k (Z4n k uw m) u10 uc uw ((bt uw uc) == 32)
    else
     if ((bt uw uc) == 9) = true then
      Z7d k (Z4n k uw m) u10 uc uw ((bt uw uc) == 9)
     else
      Z7d k (Z4n k uw m) u10 uc uw ((bt uw uc) == 10)
   else none
  else
   some (.done u10)
def Zbg (k : Nat) (uw : ByteArray) : Option ((List Gn) × Bool) :=
 if (decide ((uw.size : Int) > 3000)) = true then
  some ([], false)
 else
  (Z4n k uw k [] 0).bind fun out1 => match out1 with
  | .ret r => some r
  | .done u6i =>
   some (u6i, true)
theorem Ztr {k : Nat} {uw : ByteArray} {r : (List Gn) × Bool} (h : Zbg k uw = some r) : FnO Tryz.prog 178 [.v (.str uw) []] (.v (.tup [.sl (List.map Gn.c r.1), .bool r.2]) [(0, .app 106)]) [] := by
 refine FnO.o2 Tryz.func178 rfl fun _ _ _ _ _ _ => ?_
 unfold Zbg at h
 refine Wc.s0 [0] [] ?_
 apply Wc.seq
 refine Wc.s0 [0, 10] [] ?_
 refine Wc.ci h (fun _ h => ?_) (fun _ h => ?_)
 ·refine Wc.s0 [2, 3] [] ?_
  cases h; exact Wc.ret dn
 refine Wc.ks [0] [] ?_
 refine Wc.s0 [0, 4] [] ?_
 apply Wc.seq
 refine Wc.s0 [0, 4, 5] [] ?_
 obtain ⟨out1, h33, h⟩ := Z2d h
 refine Wc.lastJ (fun st => ∃ (u6i : List Gn), out1 = .done u6i ∧ st = ⟨[(4, (.v (.sl (List.map Gn.c u6i)), [(0, .app 106)]))], [], []⟩) ?_ ?_
 ·apply Wc.block
  refine Wc.loop (fun m st => ∃ (u10 : List Gn) (uc : Int), st = ⟨[tS 0 uw, (4, (.v (.sl (List.map Gn.c u10)), [(0, .app 106)])), tI 5 uc], [], []⟩ ∧ Z4n k uw m u10 uc = some out1) ?_ k ⟨_, _, stB h33⟩
  rintro m st ⟨u10, uc, rfl, h33⟩
  rcases m with _ | m
  ·exact (Zk h33).elim
  apply Wc.seq
  refine Wc.s0 [0, 4, 5, 14] [] ?_
  refine Wc.ci h33 (fun _ h33 => ?_) (fun _ h33 => ?_)
  ·refine Wc.ks [0, 4, 5] [] ?_
   apply Wc.block
   apply Wc.seq
   obtain ⟨h35, h33⟩ := Z4 h33
   refine Wc.s2 [] [0, 4, 5, 17] [] (o1 h35) ?_
   apply Wc.block
   refine Wc.seqJ (fun st => ∃ (u0u : Bool), st = ⟨[tS 0 uw, (4, (.v (.sl (List.map Gn.c u10)), [(0, .app 106)])), tI 5 uc, tV 17 (.int .u8 (bt uw uc)), tB 18 u0u], [], []⟩ ∧ Z7d k (Z4n k uw m) u10 uc uw u0u = some out1) ?_ ?_
   ·refine Wc.s0 [0, 4, 5, 17, 18] [] ?_
    refine Wc.ci h33 (fun _ h33 => ?_) (fun _ h33 => ?_)
    ·apply Wc.skip
     exact ⟨_, stB h33⟩
    refine Wc.s0 [0, 4, 5, 17, 18] [] ?_
    refine Wc.ci h33 (fun _ h33 => ?_) (fun _ h33 => ?_)
    ·apply Wc.skip
     exact ⟨_, stB h33⟩
    refine Wc.k0 [0, 4, 5, 17, 18] [] ?_
    exact ⟨_, stB h33⟩
   rintro st ⟨u0u, rfl, h33⟩
   refine Wc.ci h33 (fun _ h33 => ?_) (fun _ h33 => ?_)
   ·refine Wc.s0 [0, 4, 5] [] ?_
    refine Wc.exit ?_
    exact ⟨_, Nat.lt_succ_self _, _, _, stB h33⟩
   refine Wc.s0 [0, 4, 5, 24] [] ?_
   refine Wc.ci h33 (fun _ h33 => ?_) (fun _ h33 => ?_)
   ·obtain ⟨up, h38, h33⟩ := oc h33 fun _ => Zck
    refine Wc.s2 [{}, {}, hC h38] [0, 4, 5] [] (o1 h38) ?_
    refine Wc.exit ?_
    exact ⟨_, Nat.lt_succ_self _, _, _, stB h33⟩
   refine Wc.ks [0, 4, 5] [] ?_
   obtain ⟨vl, h40, h33⟩ := oc h33 fun _ => Zr0
   refine Wc.s2 [{}, {}, hC h40] [0, 4, 6, 7] [6] (o1 h40) ?_
   rcases oif h33 with ⟨h42, h33⟩ | ⟨h42, h33⟩
   ·obtain ⟨h43, h33⟩ := Z4 h33
    refine Wc.s2 [{}, {}, {}, {}, rT] [0, 4, 6, 7] [6] (o2 (cb h42) h43) ?_
    have h44 := (Z1l (c := Gn.c) (x := Gn.mk vl.1.gi vl.1.gE vl.1.gj vl.1.gAt ((bt uw vl.2) == 40)) (Gn.c_eq (Gn.mk vl.1.gi vl.1.gE vl.1.gj vl.1.gAt ((bt uw vl.2) == 40))) (Z2s Gn.c))
    obtain ⟨h45, h33⟩ := Z4 h33
    have h46 := (Z30 Gn.c u10 [Gn.mk vl.1.gi vl.1.gE vl.1.gj vl.1.gAt ((bt uw vl.2) == 40)])
    refine Wc.s2 [hK [4], {}, hB h44, { hB h46 with tk := [46] }, hK [49]] [0, 4, 7] [] (oC h44 (oA h46 Gn.c_leaf Gn.c_len h45 AllP.nil)) ?_
    refine Wc.k0 [0, 4, 5] [] ?_
    exact ⟨_, Nat.lt_succ_self _, _, _, stB h33⟩
   refine Wc.s2 [{}, {}, {}, {}, rF] [0, 4, 6, 7] [6] (o1 (cb h42)) ?_
   have h47 := (Z1l (c := Gn.c) (x := Gn.mk vl.1.gi vl.1.gE vl.1.gj vl.1.gAt false) (Gn.c_eq (Gn.mk vl.1.gi vl.1.gE vl.1.gj vl.1.gAt false)) (Z2s Gn.c))
   obtain ⟨h48, h33⟩ := Z4 h33
   have h49 := (Z30 Gn.c u10 [Gn.mk vl.1.gi vl.1.gE vl.1.gj vl.1.gAt false])
   refine Wc.s2 [hK [4], {}, hB h47, { hB h49 with tk := [46] }, hK [49]] [0, 4, 7] [] (oC h47 (oA h49 Gn.c_leaf Gn.c_len h48 AllP.nil)) ?_
   refine Wc.k0 [0, 4, 5] [] ?_
   exact ⟨_, Nat.lt_succ_self _, _, _, stB h33⟩
  refine Wc.ke [4] [] ?_
  cases h33; exact ⟨_, rfl, by kernel_rfl⟩
 rintro st ⟨u6i, rfl, rfl⟩
 refine Wc.s1 [hK [4], hK [51]] [2, 3] [] ?_
 cases h; exact Wc.ret dn

def Z48 (k : Nat) (vj : ByteArray) : Option ByteArray :=
 (Zbg k vj).bind fun u3q =>
 if u3q.2 = true then
  if ((u3q.1.length : Int) == 1) = true then
   (at' u3q.1 0).bind fun u87 =>
   if (u87.gi == 1) = true then
    (at' u3q.1 0).bind fun u88 =>
    if (sEq u88.gE vj) = true then
     some vj
    else
     if Z36 (bs [39]) vj then
      if Z36 ((bs [39]) ++ vj) (bs [39]) then
       some (((bs [39]) ++ vj) ++ (bs [39]))
      else none
     else none
   else
    if Z36 (bs [39]) vj then
     if Z36 ((bs [39]) ++ vj) (bs [39]) then
      some (((bs [39]) ++ vj) ++ (bs [39]))
     else none
    else none
  else
   if Z36 (bs [39]) vj then
    if Z36 ((bs [39]) ++ vj) (bs [39]) then
     some (((bs [39]) ++ vj) ++ (bs [39]))
    else none
   else none
 else
  if Z36 (bs [39]) vj then
   if Z36 ((bs [39]) ++ vj) (bs [39]) then
    some (((bs [39]) ++ vj) ++ (bs [39]))
   else none
  else none
theorem Zcp {k : Nat} {vj : ByteArray} {r : ByteArray} (h : Z48 k vj = some r) : FnO Tryz.prog 166 [.v (.str vj) []] (.v (.str r) []) [] := by
 refine FnO.o2 Tryz.func166 rfl fun _ _ _ _ _ _ => ?_
 unfold Z48 at h
 refine Wc.s0 [0] [] ?_
 obtain ⟨u3q, h12, h⟩ := oc h fun _ => Ztr
 refine Wc.s2 [{}, hC h12, hK [7], hK [5], {}, hK [8]] [0, 3, 4] [] (o1 h12) ?_
 apply Wc.seq
 rcases oif h with ⟨h14, h⟩ | ⟨h14, h⟩
 ·rcases oif h with ⟨h15, h⟩ | ⟨h15, h⟩
  ·obtain ⟨u87, h16, h⟩ := oc h fun u87 h16 => (Z11 (c := Gn.c) (Gn.c_eq u87) Gn.c_len h16)
   rcases oif h with ⟨h17, h⟩ | ⟨h17, h⟩
   ·obtain ⟨u88, h18, h⟩ := oc h fun u88 h18 => (Z11 (c := Gn.c) (Gn.c_eq u88) Gn.c_len h18)
    refine Wc.s2 [{}, rT, {}, hL u3q.1, {}, {}, rT, {}, hE h16, {}, {}, {}, {}, rT, hK [3], hE h18] [0, 30] [] (oC (cb h14) (oC (Z2 Gn.c u3q.1) (oC (cb h15) (oC h16 (oC (lenE h16 1) (oC (cb h17) (oC h18 (oC (lenD h18 1 1) AllP.nil)))))))) ?_
    refine Wc.ci h (fun _ h => ?_) (fun _ h => ?_)
    ·refine Wc.s0 [2] [] ?_
     cases h; exact Wc.ret dn
    refine Wc.ks [0] [] ?_
    obtain ⟨h22, h⟩ := Z4 h
    obtain ⟨h23, h⟩ := Z4 h
    refine Wc.s2 [] [2] [] (o2 h22 h23) ?_
    cases h; exact Wc.ret dn
   refine Wc.s2 [{}, rT, {}, hL u3q.1, {}, {}, rT, {}, hE h16, {}, {}, {}, {}, rF] [0, 30] [] (oC (cb h14) (oC (Z2 Gn.c u3q.1) (oC (cb h15) (oC h16 (oC (lenE h16 1) (oC (cb h17) AllP.nil)))))) ?_
   refine Wc.cF rfl ?_
   refine Wc.ks [0] [] ?_
   obtain ⟨h24, h⟩ := Z4 h
   obtain ⟨h25, h⟩ := Z4 h
   refine Wc.s2 [] [2] [] (o2 h24 h25) ?_
   cases h; exact Wc.ret dn
  refine Wc.s2 [{}, rT, {}, hL u3q.1, {}, {}, rF] [0, 30] [] (o3 (cb h14) (Z2 Gn.c u3q.1) (cb h15)) ?_
  refine Wc.cF rfl ?_
  refine Wc.ks [0] [] ?_
  obtain ⟨h26, h⟩ := Z4 h
  obtain ⟨h27, h⟩ := Z4 h
  refine Wc.s2 [] [2] [] (o2 h26 h27) ?_
  cases h; exact Wc.ret dn
 refine Wc.s2 [{}, rF] [0, 30] [] (o1 (cb h14)) ?_
 refine Wc.cF rfl ?_
 refine Wc.ks [0] [] ?_
 obtain ⟨h28, h⟩ := Z4 h
 obtain ⟨h29, h⟩ := Z4 h
 refine Wc.s2 [] [2] [] (o2 h28 h29) ?_
 cases h; exact Wc.ret dn

def Zbc (k : Nat) (ut : Gt) : Option Bool :=
 (Z3r k ut (bs [46]) 2).bind fun u0m =>
 some u0m
theorem Zpa {k : Nat} {ut : Gt} {r : Bool} (h : Zbc k ut = some r) : FnO Tryz.prog 167 [.v (.agg (Gt.q ut)) []] (.v (.bool r) []) [] := by
 refine FnO.o2 Tryz.func167 rfl fun _ _ _ _ _ _ => ?_
 unfold Zbc at h
 refine Wc.s0 [1] [1] ?_
 obtain ⟨u0m, h19, h⟩ := oc h fun _ => Zak
 refine Wc.s2 [{}, hC h19] [2] [] (o1 h19) ?_
 cases h; exact Wc.ret dn

def Z9y (k : Nat) (u35 : ByteArray) : Option ByteArray :=
 if (sEq u35 (bs [44])) = true then
  some u35
 else
  (Z48 k u35).bind fun ua0 =>
  some ua0
theorem Zqz {k : Nat} {u35 : ByteArray} {r : ByteArray} (h : Z9y k u35 = some r) : FnO Tryz.prog 157 [.v (.str u35) []] (.v (.str r) []) [] := by
 refine FnO.o2 Tryz.func157 rfl fun _ _ _ _ _ _ => ?_
 unfold Z9y at h
 refine Wc.s0 [0] [] ?_
 apply Wc.seq
 refine Wc.s0 [0, 4] [] ?_
 refine Wc.ci h (fun _ h => ?_) (fun _ h => ?_)
 ·refine Wc.s0 [2] [] ?_
  cases h; exact Wc.ret dn
 refine Wc.ks [0] [] ?_
 obtain ⟨ua0, h68, h⟩ := oc h fun _ => Zcp
 refine Wc.s2 [{}, hC h68] [2] [] (o1 h68) ?_
 cases h; exact Wc.ret dn

def Zdz (k : Nat) (u1t : Gt) : Option Bool :=
 (Z9m k u1t.gn).bind fun ua1 =>
 if ua1.2 = true then
  if (u1t.gi == 4) = true then
   some ((u1t.ga.length : Int) == 2)
  else
   some false
 else
  some false
theorem Zto {k : Nat} {u1t : Gt} {r : Bool} (h : Zdz k u1t = some r) : FnO Tryz.prog 168 [.v (.agg (Gt.q u1t)) []] (.v (.bool r) []) [] := by
 refine FnO.o2 Tryz.func168 rfl fun _ _ _ _ _ _ => ?_
 unfold Zdz at h
 refine Wc.s0 [1] [1] ?_
 obtain ⟨ua1, h72, h⟩ := oc h fun _ => Zm2
 refine Wc.s2 [{}, {}, hC h72] [1, 4] [1] (o1 h72) ?_
 rcases oif h with ⟨h74, h⟩ | ⟨h74, h⟩
 ·rcases oif h with ⟨h75, h⟩ | ⟨h75, h⟩
  ·refine Wc.s2 [{}, rT, {}, {}, {}, {}, rT, {}, {}, hL u1t.ga] [2] [] (o3 (cb h74) (cb h75) (Z2 Gt.c u1t.ga)) ?_
   cases h; exact Wc.ret dn
  refine Wc.s2 [{}, rT, {}, {}, {}, {}, rF] [2] [] (o2 (cb h74) (cb h75)) ?_
  cases h; exact Wc.ret dn
 refine Wc.s2 [{}, rF] [2] [] (o1 (cb h74)) ?_
 cases h; exact Wc.ret dn

def Z78 (k : Nat) (l : List ByteArray) (s : ByteArray) : Option ByteArray :=
 if l.length ≤ 1073741824 ∧ (Zcy l s).size ≤ 1073741824 then some (Zcy l s) else none
theorem Zng {k : Nat} {l : List ByteArray} {s r : ByteArray} (h : Z78 k l s = some r) : FnO Tryz.prog 169 [.v (.sl (List.map cS l)) [], .v (.str s) []] (.v (.str r) []) [] := Z12c Tryz.strings_Join_none Tryz.strings_Join h

def Zz (k : Nat) (Z1u : Gt → Option ByteArray) (Z1n : Gt → Option ByteArray) : Nat → ByteArray → Gt → Option (Out ByteArray (ByteArray × Gt))
 | 0, _, _ => none
 | m + 1, u55, vq =>
  (Zbc k vq).bind fun u2b =>
  if u2b = true then
   (at' vq.ga 0).bind fun zf =>
   (Z1u zf).bind fun u3z =>
   if Z36 (bs [44]) u3z then
    if Z36 u55 ((bs [44]) ++ u3z) then
     (at' vq.ga 1).bind fun zw =>
     Zz k Z1u Z1n m (u55 ++ ((bs [44]) ++ u3z)) zw
    else none
   else none
  else
   some (.done (u55, vq))
def Ze (k : Nat) (Z1u : Gt → Option ByteArray) (Z1n : Gt → Option ByteArray) (uh : Gt) : Nat → (List ByteArray) → Int → Option (Out ByteArray (List ByteArray))
 | 0, _, _ => none
 | m + 1, u4w, u18 =>
  if (decide (u18 < (uh.ga.length : Int))) = true then
   (at' uh.ga u18).bind fun u0z =>
   (Z1u u0z).bind fun z7 =>
   if u4w.length + [z7].length ≤ 1073741824 then
    Ze k Z1u Z1n uh m (u4w ++ [z7]) (wr.i64 (u18 + 1))
   else none
  else
   some (.done u4w)
def Zp (k : Nat) (Z1u : Gt → Option ByteArray) (Z1n : Gt → Option ByteArray) (uh : Gt) (zm : Bool) : Option ByteArray :=
 if zm = true then
  (Z48 k uh.gn).bind fun u0n =>
  if Z36 (bs [40]) u0n then
   if Z36 ((bs [40]) ++ u0n) (bs [41]) then
    some (((bs [40]) ++ u0n) ++ (bs [41]))
   else none
  else none
 else
  if (uh.gi == 2) = true then
   (Z48 k uh.gn).bind fun uj =>
   some uj
  else
   (Zbc k uh).bind fun u0u =>
   if u0u = true then
    (at' uh.ga 0).bind fun zu =>
    (Z1u zu).bind fun u1z =>
    if Z36 (bs [91]) u1z then
     (at' uh.ga 1).bind fun zv =>
     (Zz k Z1u Z1n k ((bs [91]) ++ u1z) zv).bind fun out2 => match out2 with
     | .ret r => some r
     | .done (ur, vu) =>
      (Za1 k vu (bs [91, 93])).bind fun u3f =>
      if (!u3f) = true then
       (Z1u vu).bind fun u3b =>
       if Z36 (bs [124]) u3b then
        if Z36 ur ((bs [124]) ++ u3b) then
         if Z36 (ur ++ ((bs [124]) ++ u3b)) (bs [93]) then
          some ((ur ++ ((bs [124]) ++ u3b)) ++ (bs [93]))
         else none
        else none
       else none
      else
       if Z36 ur (bs [93]) then
        some (ur ++ (bs [93]))
       else none
    else none
   else
    (Zdz k uh).bind fun u2d =>
    if u2d = true then
     (Z1n uh).bind fun u35 =>
     some u35
    else
     (Ze k Z1u Z1n uh k [] 0).bind fun out3 => match out3 with
     | .ret r => some r
     | .done u6j =>
      (Z48 k uh.gn).bind fun u25 =>
      if Z36 u25 (bs [40]) then
       (Z78 k u6j (bs [44])).bind fun u56 =>
       if Z36 (u25 ++ (bs [40])) u56 then
        if Z36 ((u25 ++ (bs [40])) ++ u56) (bs [41]) then
         some (((u25 ++ (bs [40])) ++ u56) ++ (bs [41]))
        else none
       else none
      else none
def Z14 (k : Nat) (Z1u : Gt → Option ByteArray) (Z1n : Gt → Option ByteArray) (uh : Gt) : Option ByteArray :=
 if (uh.gi == 1) = true then
  (Z5r k uh.gj).bind fun ug =>
  if Z36 (bs [95]) ug then
   some ((bs [95]) ++ ug)
  else none
 else
  if (uh.gi == 3) = true then
   (Z5r k uh.gj).bind fun u38 =>
   some u38
  else
   (Za1 k uh (bs [91, 93])).bind fun u0d =>
   if u0d = true then
    some (bs [91, 93])
   else
    if (uh.gi == 2) = true then
     (Zmp k uh.gn).bind fun u3n =>
     Zp k Z1u Z1n uh u3n
    else
     Zp k Z1u Z1n uh false
theorem Z5z {k : Nat} {Z1u : Gt → Option ByteArray} {Z1n : Gt → Option ByteArray} (Z67 : ∀ {y0 : Gt} {r : ByteArray}, Z1u y0 = some r → FnO Tryz.prog 145 [.v (.agg (Gt.q y0)) []] (.v (.str r) []) []) (Zch : ∀ {y0 : Gt} {r : ByteArray}, Z1n y0 = some r → FnO Tryz.prog 156 [.v (.agg (Gt.q y0)) []] (.v (.str r) []) []) {uh : Gt} {r : ByteArray} (h : Z14 k Z1u Z1n uh = some r) : FnO Tryz.prog 155 [.v (.agg (Gt.q uh)) [], .v (.func 145 []) [], .v (.func 156 []) []] (.v (.str r) []) [] := by
 refine FnO.o2 Tryz.func155 rfl fun _ _ _ _ _ _ => ?_
 unfold Z14 at h
 refine Wc.s0 [1, 2, 3] [3] ?_
 apply Wc.seq
 apply Wc.block
 refine Wc.s0 [1, 2, 3, 12] [3] ?_
 refine Wc.ci h (fun _ h => ?_) (fun _ h => ?_)
 ·obtain ⟨ug, h24, h⟩ := oc h fun _ => Zh4
  obtain ⟨h25, h⟩ := Z4 h
  refine Wc.s2 [{}, {}, hC h24] [6] [] (o2 h24 h25) ?_
  cases h; exact Wc.ret dn
 refine Wc.s0 [1, 2, 3, 20] [3] ?_
 refine Wc.ci h (fun _ h => ?_) (fun _ h => ?_)
 ·obtain ⟨u38, h28, h⟩ := oc h fun _ => Zh4
  refine Wc.s2 [{}, {}, hC h28] [6] [] (o1 h28) ?_
  cases h; exact Wc.ret dn
 obtain ⟨u0d, h30, h⟩ := oc h fun _ => Zpb
 refine Wc.s2 [{}, hC h30] [1, 2, 3, 27] [3] (o1 h30) ?_
 refine Wc.ci h (fun _ h => ?_) (fun _ h => ?_)
 ·refine Wc.s0 [6] [] ?_
  cases h; exact Wc.ret dn
 refine Wc.seqJ (fun st => ∃ (zm : Bool), st = ⟨[tV 1 (.func 145 []), tV 2 (.func 156 []), tP 3 3, tB 30 zm], [bC 3 (Gt.q uh)], []⟩ ∧ Zp k Z1u Z1n uh zm = some r) ?_ ?_
 ·rcases oif h with ⟨h93, h⟩ | ⟨h93, h⟩
  ·obtain ⟨u3n, h94, h⟩ := oc h fun _ => Z117
   refine Wc.k2 [{}, {}, {}, rT, {}, {}, hC h94] [1, 2, 3, 30] [3] (o2 (cb h93) h94) ?_
   exact ⟨_, stB h⟩
  refine Wc.k2 [{}, {}, {}, rF] [1, 2, 3, 30] [3] (o1 (cb h93)) ?_
  exact ⟨_, stB h⟩
 rintro st ⟨zm, rfl, h⟩
 refine Wc.ci h (fun _ h => ?_) (fun _ h => ?_)
 ·obtain ⟨u0n, h34, h⟩ := oc h fun _ => Zcp
  obtain ⟨h35, h⟩ := Z4 h
  obtain ⟨h36, h⟩ := Z4 h
  refine Wc.s2 [{}, {}, hC h34] [6] [] (o3 h34 h35 h36) ?_
  cases h; exact Wc.ret dn
 refine Wc.s0 [1, 2, 3, 44] [3] ?_
 refine Wc.ci h (fun _ h => ?_) (fun _ h => ?_)
 ·obtain ⟨uj, h39, h⟩ := oc h fun _ => Zcp
  refine Wc.s2 [{}, {}, hC h39] [6] [] (o1 h39) ?_
  cases h; exact Wc.ret dn
 obtain ⟨u0u, h41, h⟩ := oc h fun _ => Zpa
 refine Wc.s2 [{}, hC h41] [1, 2, 3, 51] [3] (o1 h41) ?_
 refine Wc.ci h (fun _ h => ?_) (fun _ h => ?_)
 ·obtain ⟨zu, h44, h⟩ := oc h fun zu h44 => (Z11 (c := Gt.c) (Gt.c_eq zu) Gt.c_len h44)
  obtain ⟨u1z, h45, h⟩ := oc h fun _ => Z67
  obtain ⟨h46, h⟩ := Z4 h
  refine Wc.s2 [{}, {}, {}, hE h44, {}, hC h45] [1, 3, 7] [3] (o4 h44 (lenE h44 4) h45 h46) ?_
  obtain ⟨zv, h49, h⟩ := oc h fun zv h49 => (Z11 (c := Gt.c) (Gt.c_eq zv) Gt.c_len h49)
  refine Wc.s2 [{}, {}, hE h49] [1, 7, 8] [8] (o2 h49 (lenE h49 4)) ?_
  obtain ⟨out2, h51, h⟩ := Z2d h
  refine Wc.seqJ (fun st => ∃ (ur : ByteArray) (vu : Gt), out2 = .done (ur, vu) ∧ st = ⟨[tV 1 (.func 145 []), tS 7 ur, tP 8 8], [bC 8 (Gt.q vu)], []⟩) ?_ ?_
  ·apply Wc.block
   refine Wc.loop (fun m st => ∃ (u55 : ByteArray) (vq : Gt), st = ⟨[tV 1 (.func 145 []), tS 7 u55, tP 8 8], [bC 8 (Gt.q vq)], []⟩ ∧ Zz k Z1u Z1n m u55 vq = some out2) ?_ k ⟨_, _, stB h51⟩
   rintro m st ⟨u55, vq, rfl, h51⟩
   rcases m with _ | m
   ·exact (Zk h51).elim
   apply Wc.seq
   obtain ⟨u2b, h52, h51⟩ := oc h51 fun _ => Zpa
   refine Wc.s2 [{}, hC h52] [1, 7, 8, 66] [8] (o1 h52) ?_
   refine Wc.ci h51 (fun _ h51 => ?_) (fun _ h51 => ?_)
   ·refine Wc.ks [1, 7, 8] [8] ?_
    apply Wc.seq
    apply Wc.block
    obtain ⟨zf, h55, h51⟩ := oc h51 fun zf h55 => (Z11 (c := Gt.c) (Gt.c_eq zf) Gt.c_len h55)
    obtain ⟨u3z, h56, h51⟩ := oc h51 fun _ => Z67
    obtain ⟨h57, h51⟩ := Z4 h51
    obtain ⟨h58, h51⟩ := Z4 h51
    refine Wc.k2 [{}, {}, {}, {}, hE h55, {}, hC h56] [1, 7, 8] [8] (oC h55 (oC (lenE h55 4) (oC h56 (oC h57 (oC h58 AllP.nil))))) ?_
    obtain ⟨zw, h61, h51⟩ := oc h51 fun zw h61 => (Z11 (c := Gt.c) (Gt.c_eq zw) Gt.c_len h61)
    refine Wc.k2 [{}, {}, hE h61] [1, 7, 8] [8] (o2 h61 (lenE h61 4)) ?_
    exact ⟨_, Nat.lt_succ_self _, _, _, stB h51⟩
   refine Wc.ke [1, 7, 8] [8] ?_
   cases h51; exact ⟨_, _, rfl, by kernel_rfl⟩
  rintro st ⟨ur, vu, rfl, rfl⟩
  apply Wc.seq
  obtain ⟨u3f, h63, h⟩ := oc h fun _ => Zpb
  refine Wc.s2 [{}, hC h63] [1, 7, 8, 82] [8] (o1 h63) ?_
  refine Wc.ci h (fun _ h => ?_) (fun _ h => ?_)
  ·obtain ⟨u3b, h66, h⟩ := oc h fun _ => Z67
   obtain ⟨h67, h⟩ := Z4 h
   obtain ⟨h68, h⟩ := Z4 h
   refine Wc.k2 [{}, {}, {}, hC h66] [7] [] (o3 h66 h67 h68) ?_
   obtain ⟨h70, h⟩ := Z4 h
   refine Wc.s2 [] [6] [] (o1 h70) ?_
   cases h; exact Wc.ret dn
  refine Wc.ks [7] [] ?_
  obtain ⟨h71, h⟩ := Z4 h
  refine Wc.s2 [] [6] [] (o1 h71) ?_
  cases h; exact Wc.ret dn
 obtain ⟨u2d, h72, h⟩ := oc h fun _ => Zto
 refine Wc.s2 [{}, hC h72] [1, 2, 3, 91] [3] (o1 h72) ?_
 refine Wc.ci h (fun _ h => ?_) (fun _ h => ?_)
 ·obtain ⟨u35, h75, h⟩ := oc h fun _ => Zch
  refine Wc.s2 [{}, {}, hC h75] [6] [] (o1 h75) ?_
  cases h; exact Wc.ret dn
 refine Wc.ks [1, 3] [3] ?_
 refine Wc.s0 [1, 3, 9] [3] ?_
 apply Wc.seq
 refine Wc.s2 [{}, {}, hL uh.ga] [1, 3, 9, 98, 99, 100] [3] (o1 (Z2 Gt.c uh.ga)) ?_
 obtain ⟨out3, h77, h⟩ := Z2d h
 refine Wc.lastJ (fun st => ∃ (u6j : List ByteArray), out3 = .done u6j ∧ st = ⟨[tP 3 3, (9, (.v (.sl (List.map cS u6j)), [(0, .app 9)]))], [bC 3 (Gt.q uh)], []⟩) ?_ ?_
 ·apply Wc.block
  refine Wc.loop (fun m st => ∃ (u4w : List ByteArray) (u18 : Int), st = ⟨[tV 1 (.func 145 []), tP 3 3, (9, (.v (.sl (List.map cS u4w)), [(0, .app 9)])), tV 98 (.sl (List.map Gt.c uh.ga)), tI 99 (uh.ga.length : Int), tI 100 u18], [bC 3 (Gt.q uh)], []⟩ ∧ Ze k Z1u Z1n uh m u4w u18 = some out3) ?_ k ⟨_, _, stB h77⟩
  rintro m st ⟨u4w, u18, rfl, h77⟩
  rcases m with _ | m
  ·exact (Zk h77).elim
  refine Wc.s0 [1, 3, 9, 98, 99, 100, 101] [3] ?_
  apply Wc.seq
  refine Wc.ci h77 (fun _ h77 => ?_) (fun _ h77 => ?_)
  ·refine Wc.ks [1, 3, 9, 98, 99, 100] [3] ?_
   apply Wc.seq
   apply Wc.block
   obtain ⟨u0z, h79, h77⟩ := oc h77 fun u0z h79 => (Z11 (c := Gt.c) (Gt.c_eq u0z) Gt.c_len h79)
   refine Wc.s2 [hE h79] [1, 3, 9, 11, 98, 99, 100] [3, 11] (o2 h79 (lenE h79 4)) ?_
   obtain ⟨z7, h81, h77⟩ := oc h77 fun _ => Z67
   have h82 := (cR cS [z7])
   obtain ⟨h83, h77⟩ := Z4 h77
   have h84 := (Z30 cS u4w [z7])
   refine Wc.k2 [hK [9], {}, {}, hC h81, hB h82, { hB h84 with tk := [104] }, hK [109]] [1, 3, 9, 98, 99, 100] [3] (oC h81 (oC h82 (oA h84 Zh5 Zau h83 AllP.nil))) ?_
   refine Wc.k0 [1, 3, 9, 98, 99, 100] [3] ?_
   exact ⟨_, Nat.lt_succ_self _, _, _, stB h77⟩
  refine Wc.ke [3, 9] [3] ?_
  cases h77; exact ⟨_, rfl, by kernel_rfl⟩
 rintro st ⟨u6j, rfl, rfl⟩
 obtain ⟨u25, h86, h⟩ := oc h fun _ => Zcp
 obtain ⟨h87, h⟩ := Z4 h
 obtain ⟨u56, h88, h⟩ := oc h fun _ => Zng
 obtain ⟨h89, h⟩ := Z4 h
 obtain ⟨h90, h⟩ := Z4 h
 refine Wc.s2 [{}, {}, hC h86, {}, hK [9], hC h88] [6] [] (oC h86 (oC h87 (oC h88 (oC h89 (oC h90 AllP.nil))))) ?_
 cases h; exact Wc.ret dn

mutual
def Z4s : Nat → Gt → Option ByteArray
 | 0, _ => none
 | k + 1, vp =>
  (Z14 k (Z4s k) (Z40 k) vp).bind fun zs =>
  some zs
def Z40 : Nat → Gt → Option ByteArray
 | 0, _ => none
 | k + 1, ui =>
  (at' ui.ga 0).bind fun uz =>
  (Z4s k uz).bind fun uw =>
  if Z36 (bs [40]) uw then
   if Z36 ((bs [40]) ++ uw) (bs [32]) then
    (Z9y k ui.gn).bind fun u02 =>
    if Z36 (((bs [40]) ++ uw) ++ (bs [32])) u02 then
     if Z36 ((((bs [40]) ++ uw) ++ (bs [32])) ++ u02) (bs [32]) then
      (at' ui.ga 1).bind fun z3 =>
      (Z4s k z3).bind fun uj =>
      if Z36 (((((bs [40]) ++ uw) ++ (bs [32])) ++ u02) ++ (bs [32])) uj then
       if Z36 ((((((bs [40]) ++ uw) ++ (bs [32])) ++ u02) ++ (bs [32])) ++ uj) (bs [41]) then
        some (((((((bs [40]) ++ uw) ++ (bs [32])) ++ u02) ++ (bs [32])) ++ uj) ++ (bs [41]))
       else none
      else none
     else none
    else none
   else none
  else none
end
theorem Zhw : ∀ k : Nat, (∀ {vp : Gt} {r : ByteArray}, Z4s k vp = some r → FnO Tryz.prog 145 [.v (.agg (Gt.q vp)) []] (.v (.str r) []) []) ∧
  (∀ {ui : Gt} {r : ByteArray}, Z40 k ui = some r → FnO Tryz.prog 156 [.v (.agg (Gt.q ui)) []] (.v (.str r) []) []) := by
 intro k
 induction k with
 | zero =>
  refine ⟨?_, ?_⟩
  ·intro vp r h
   exact (Zk (by rw [Z4s] at h; exact h)).elim
  ·intro ui r h
   exact (Zk (by rw [Z40] at h; exact h)).elim
 | succ k ih =>
  obtain ⟨Z67, Zch⟩ := ih
  refine ⟨?_, ?_⟩
  ·intro vp r h
   rw [Z4s] at h
   refine FnO.o2 Tryz.func145 rfl fun _ _ _ _ _ _ => ?_
   refine Wc.s0 [1] [1] ?_
   obtain ⟨zs, h23, h⟩ := oc h fun zs h23 => (Z5z (fun h => Z67 h) (fun h => Zch h) h23)
   refine Wc.s2 [{}, hC h23] [2] [] (o1 h23) ?_
   cases h; exact Wc.ret dn
  ·intro ui r h
   rw [Z40] at h
   refine FnO.o2 Tryz.func156 rfl fun _ _ _ _ _ _ => ?_
   refine Wc.s0 [1] [1] ?_
   apply Wc.seq
   obtain ⟨uz, h25, h⟩ := oc h fun uz h25 => (Z11 (c := Gt.c) (Gt.c_eq uz) Gt.c_len h25)
   obtain ⟨uw, h26, h⟩ := oc h fun _ => Z67
   obtain ⟨h27, h⟩ := Z4 h
   obtain ⟨h28, h⟩ := Z4 h
   obtain ⟨u02, h29, h⟩ := oc h fun _ => Zqz
   obtain ⟨h30, h⟩ := Z4 h
   obtain ⟨h31, h⟩ := Z4 h
   obtain ⟨z3, h32, h⟩ := oc h fun z3 h32 => (Z11 (c := Gt.c) (Gt.c_eq z3) Gt.c_len h32)
   obtain ⟨uj, h33, h⟩ := oc h fun _ => Z67
   obtain ⟨h34, h⟩ := Z4 h
   obtain ⟨h35, h⟩ := Z4 h
   refine Wc.dk hmix [{}, {}, hE h25, {}, hC h26, {}, {}, {}, {}, hC h29, {}, {}, {}, {}, hE h32, {}, hC h33] [] [2] [] [] (oC h25 (oC (lenE h25 4) (oC h26 (oC h27 (oC h28 (oC h29 (oC h30 (oC h31 (oC h32 (oC (lenE h32 4) (oC h33 (oC h34 (oC h35 AllP.nil))))))))))))) ?_
   cases h; exact Wc.ret dn
theorem Zyi {k : Nat} {vp : Gt} {r : ByteArray} (h : Z4s k vp = some r) : FnO Tryz.prog 145 [.v (.agg (Gt.q vp)) []] (.v (.str r) []) [] := (Zhw k).1 h
theorem Z11d {k : Nat} {ui : Gt} {r : ByteArray} (h : Z40 k ui = some r) : FnO Tryz.prog 156 [.v (.agg (Gt.q ui)) []] (.v (.str r) []) [] := (Zhw k).2 h

def Z74 (k : Nat) (z4 : Gt) : Option ByteArray :=
 (Z3u k z4).bind fun u2g =>
 if (!u2g) = true then
  some (bs [])
 else
  (Z4s k z4).bind fun u03 =>
  some u03
theorem Zpd {k : Nat} {z4 : Gt} {r : ByteArray} (h : Z74 k z4 = some r) : FnO Tryz.prog 123 [.v (.agg (Gt.q z4)) []] (.v (.str r) []) [] := by
 refine FnO.o2 Tryz.func123 rfl fun _ _ _ _ _ _ => ?_
 unfold Z74 at h
 refine Wc.s0 [1] [1] ?_
 apply Wc.seq
 obtain ⟨u2g, h4, h⟩ := oc h fun _ => Z6a
 refine Wc.s2 [{}, hC h4] [1, 5] [1] (o1 h4) ?_
 refine Wc.ci h (fun _ h => ?_) (fun _ h => ?_)
 ·refine Wc.s0 [2] [] ?_
  cases h; exact Wc.ret dn
 refine Wc.ks [1] [1] ?_
 obtain ⟨u03, h7, h⟩ := oc h fun _ => Zyi
 refine Wc.s2 [{}, hC h7] [2] [] (o1 h7) ?_
 cases h; exact Wc.ret dn

def Zbh (k : Nat) (vm : Gd) : Nat → Int → Option (Out Bool Unit)
 | 0, _ => none
 | m + 1, u0q =>
  if (decide (u0q < (vm.gq.length : Int))) = true then
   (at' vm.gq u0q).bind fun u5l =>
   (Z3u k u5l.gA).bind fun u2h =>
   if (!u2h) = true then
    some (.ret false)
   else
    (Z3u k u5l.gD).bind fun u3l =>
    if (!u3l) = true then
     some (.ret false)
    else
     (Zbd k u5l.gA).bind fun u0m =>
     if (!u0m) = true then
      some (.ret false)
     else
      Zbh k vm m (wr.i64 (u0q + 1))
  else
   some (.done ())
def Zgl (k : Nat) (vm : Gd) : Option Bool :=
 (Zbh k vm k 0).bind fun out1 => match out1 with
 | .ret r => some r
 | .done () =>
  if (decide ((vm.gq.length : Int) ≤ 120)) = true then
   some (decide ((vm.gy.length : Int) ≤ 40))
  else
   some false
theorem Zwj {k : Nat} {vm : Gd} {r : Bool} (h : Zgl k vm = some r) : FnO Tryz.prog 12 [.v (.agg (Gd.q vm)) []] (.v (.bool r) []) [] := by
 refine FnO.o2 Tryz.func12 rfl fun _ _ _ _ _ _ => ?_
 unfold Zgl at h
 refine Wc.s0 [1] [1] ?_
 apply Wc.seq
 refine Wc.s2 [{}, {}, hL vm.gq] [1, 6, 7, 8] [1] (o1 (Z2 Gc.c vm.gq)) ?_
 obtain ⟨out1, h8, h⟩ := Z2d h
 refine Wc.lastJ (fun st => out1 = .done () ∧ st = ⟨[tP 1 1], [bC 1 (Gd.q vm)], []⟩) ?_ ?_
 ·apply Wc.block
  refine Wc.loop (fun m st => ∃ (u0q : Int), st = ⟨[tP 1 1, tV 6 (.sl (List.map Gc.c vm.gq)), tI 7 (vm.gq.length : Int), tI 8 u0q], [bC 1 (Gd.q vm)], []⟩ ∧ Zbh k vm m u0q = some out1) ?_ k ⟨_, stB h8⟩
  rintro m st ⟨u0q, rfl, h8⟩
  rcases m with _ | m
  ·exact (Zk h8).elim
  refine Wc.s0 [1, 6, 7, 8, 9] [1] ?_
  apply Wc.seq
  refine Wc.ci h8 (fun _ h8 => ?_) (fun _ h8 => ?_)
  ·refine Wc.ks [1, 6, 7, 8] [1] ?_
   apply Wc.seq
   apply Wc.block
   obtain ⟨u5l, h10, h8⟩ := oc h8 fun u5l h10 => (Z11 (c := Gc.c) (Gc.c_eq u5l) Gc.c_len h10)
   refine Wc.s2 [hE h10] [1, 4, 6, 7, 8] [1, 4] (o2 h10 (lenE h10 9)) ?_
   obtain ⟨u2h, h12, h8⟩ := oc h8 fun _ => Z6a
   rcases oif h8 with ⟨h13, h8⟩ | ⟨h13, h8⟩
   ·refine Wc.s2 [{}, {}, hC h12, {}, rT] [1, 6, 7, 8, 27] [1] (o2 h12 (cb h13)) ?_
    refine Wc.cT rfl ?_
    refine Wc.s0 [2] [] ?_
    cases h8; cases h; exact Wc.ret dn
   obtain ⟨u3l, h14, h8⟩ := oc h8 fun _ => Z6a
   rcases oif h8 with ⟨h15, h8⟩ | ⟨h15, h8⟩
   ·refine Wc.s2 [{}, {}, hC h12, {}, rF, {}, {}, hC h14, {}, {}, rT] [1, 6, 7, 8, 27] [1] (o4 h12 (cb h13) h14 (cb h15)) ?_
    refine Wc.cT rfl ?_
    refine Wc.s0 [2] [] ?_
    cases h8; cases h; exact Wc.ret dn
   obtain ⟨u0m, h16, h8⟩ := oc h8 fun _ => Zpc
   refine Wc.s2 [{}, {}, hC h12, {}, rF, {}, {}, hC h14, {}, {}, rF, {}, {}, hC h16] [1, 6, 7, 8, 27] [1] (oC h12 (oC (cb h13) (oC h14 (oC (cb h15) (oC h16 AllP.nil))))) ?_
   refine Wc.ci h8 (fun _ h8 => ?_) (fun _ h8 => ?_)
   ·refine Wc.s0 [2] [] ?_
    cases h8; cases h; exact Wc.ret dn
   refine Wc.ks [1, 6, 7, 8] [1] ?_
   refine Wc.k0 [1, 6, 7, 8] [1] ?_
   exact ⟨_, Nat.lt_succ_self _, _, stB h8⟩
  refine Wc.ke [1] [1] ?_
  cases h8; exact ⟨rfl, by kernel_rfl⟩
 rintro st ⟨rfl, rfl⟩
 rcases oif h with ⟨h21, h⟩ | ⟨h21, h⟩
 ·refine Wc.s2 [{}, {}, hL vm.gq, {}, rT, {}, {}, hL vm.gy] [2] [] (o3 (Z2 Gc.c vm.gq) (cb h21) (Z2 cS vm.gy)) ?_
  cases h; exact Wc.ret dn
 refine Wc.s2 [{}, {}, hL vm.gq, {}, rF] [2] [] (o2 (Z2 Gc.c vm.gq) (cb h21)) ?_
 cases h; exact Wc.ret dn

def Z2x (k : Nat) (Z1z : Gt → Option Gt) (u9 : Gt) : Nat → Int → Gt → Option (Out Gt Gt)
 | 0, _, _ => none
 | m + 1, uo, ui =>
  if (decide (uo < (u9.ga.length : Int))) = true then
   (at' u9.ga uo).bind fun ub =>
   (Z1z ub).bind fun v5 =>
   if ui.ga.length + [v5].length ≤ 1073741824 then
    Z2x k Z1z u9 m (wr.i64 (uo + 1)) (Gt.mk ui.gi ui.gn ui.gj (ui.ga ++ [v5]))
   else none
  else
   some (.done ui)
def Z2y (k : Nat) (Z1z : Gt → Option Gt) (u9 : Gt) (vp : Gt) : Option Gt :=
 (Z2x k Z1z u9 k 0 vp).bind fun out2 => match out2 with
 | .ret r => some r
 | .done uz =>
  some uz
mutual
def Zr : Nat → Gt → Option Gt
 | 0, _ => none
 | k + 1, u9 =>
  if (u9.gi == 1) = true then
   (Z79 k u9.gj).bind fun uc =>
   Z2y k (Zr k) u9 (Gt.mk u9.gi u9.gn uc [])
  else
   Z2y k (Zr k) u9 (Gt.mk u9.gi u9.gn u9.gj [])
end
theorem Z77 : ∀ k : Nat, (∀ {u9 : Gt} {r : Gt}, Zr k u9 = some r → FnO Tryz.prog 39 [.v (.agg (Gt.q u9)) [], .v (.func 40 []) []] (.v (.agg (Gt.qx r)) (Gt.h3_31t r)) []) := by
 intro k
 induction k with
 | zero =>
  ·intro u9 r h
   exact (Zk (by rw [Zr] at h; exact h)).elim
 | succ k ih =>
  have Z7s := @ih
  ·intro u9 r h
   rw [Zr] at h
   refine FnO.o2 Tryz.func39 rfl fun _ _ _ _ _ _ => ?_
   refine Wc.s0 [1, 2, 4] [2, 4] ?_
   refine Wc.s0 [1, 2, 4, 5] [2, 4, 5] ?_
   refine Wc.s0 [1, 2, 4, 5] [2, 4, 5] ?_
   refine Wc.seqJ (fun st => ∃ (vp : Gt), st = ⟨[tV 1 (.func 40 []), tP 2 2, tP 4 4, tP 5 5], [bC 2 (Gt.q u9), (4, .cells [aI 0, .str (bs []), aI 0, .slx] [(3, .ex 31 true (List.map Gt.c []))]), (5, .cells (Gt.qx vp) (Gt.h3_31t vp))], []⟩ ∧ Z2y k (Zr k) u9 vp = some r) ?_ ?_
   ·refine Wc.s0 [1, 2, 4, 5, 12] [2, 4, 5] ?_
    refine Wc.ci h (fun _ h => ?_) (fun _ h => ?_)
    ·obtain ⟨uc, h23, h⟩ := oc h fun _ => Zg9
     refine Wc.k3 [{}, {}, {}, hC h23] [.ow (.b 4 3) true, .ow (.b 5 3) true] [1, 2, 4, 5] [2, 4, 5] [] (o1 h23) ?_
     exact ⟨_, stB h⟩
    refine Wc.fk [.ow (.b 4 3) true, .ow (.b 5 3) true] [1, 2, 4, 5] [2, 4, 5] [] ?_
    apply Wc.skip
    exact ⟨_, stB h⟩
   rintro st ⟨vp, rfl, h⟩
   apply Wc.seq
   refine Wc.s2 [{}, {}, hL u9.ga] [1, 4, 5, 19, 20, 21] [4, 5] (o1 (Z2 Gt.c u9.ga)) ?_
   obtain ⟨out2, h13, h⟩ := Z2d h
   refine Wc.lastJ (fun st => ∃ (uz : Gt), out2 = .done uz ∧ st = ⟨[tP 4 4, tP 5 5], [(4, .cells [aI 0, .str (bs []), aI 0, .slx] [(3, .ex 31 true (List.map Gt.c []))]), (5, .cells (Gt.qx uz) (Gt.h3_31t uz))], []⟩) ?_ ?_
   ·apply Wc.block
    refine Wc.loop (fun m st => ∃ (uo : Int) (ui : Gt), st = ⟨[tV 1 (.func 40 []), tP 4 4, tP 5 5, tV 19 (.sl (List.map Gt.c u9.ga)), tI 20 (u9.ga.length : Int), tI 21 uo], [(4, .cells [aI 0, .str (bs []), aI 0, .slx] [(3, .ex 31 true (List.map Gt.c []))]), (5, .cells (Gt.qx ui) (Gt.h3_31t ui))], []⟩ ∧ Z2x k (Zr k) u9 m uo ui = some out2) ?_ k ⟨_, _, stB h13⟩
    rintro m st ⟨uo, ui, rfl, h13⟩
    rcases m with _ | m
    ·exact (Zk h13).elim
    refine Wc.s0 [1, 4, 5, 19, 20, 21, 22] [4, 5] ?_
    apply Wc.seq
    refine Wc.ci h13 (fun _ h13 => ?_) (fun _ h13 => ?_)
    ·refine Wc.ks [1, 4, 5, 19, 20, 21] [4, 5] ?_
     apply Wc.seq
     apply Wc.block
     obtain ⟨ub, h15, h13⟩ := oc h13 fun ub h15 => (Z11 (c := Gt.c) (Gt.c_eq ub) Gt.c_len h15)
     refine Wc.s2 [hE h15] [1, 4, 5, 7, 19, 20, 21] [4, 5, 7] (o2 h15 (lenE h15 4)) ?_
     obtain ⟨v5, h17, h13⟩ := oc h13 fun _ => Z7s
     have h18 := (Z1l (c := Gt.c) (x := v5) (Gt.c_eq v5) (Z2s Gt.c))
     obtain ⟨h19, h13⟩ := Z4 h13
     have h20 := (Z30 Gt.c ui.ga [v5])
     refine Wc.dk hmix [{}, hM 1, {}, {}, hC h17, { hB h18 with tk := [29], md := 2 }, { hB h20 with tk := [26, 30], md := 2 }, {}, hK [31]] [] [1, 4, 5, 19, 20, 21] [4, 5] [] (oC h17 (oC h18 (oAn h20 Gt.c_len h19 AllP.nil))) ?_
     refine Wc.k0 [1, 4, 5, 19, 20, 21] [4, 5] ?_
     exact ⟨_, Nat.lt_succ_self _, _, _, stB h13⟩
    refine Wc.ke [4, 5] [4, 5] ?_
    cases h13; exact ⟨_, rfl, by kernel_rfl⟩
   rintro st ⟨uz, rfl, rfl⟩
   refine Wc.s1 [hM 1, hK [34]] [4] [4] ?_
   cases h; exact Wc.ret dn
theorem Z8z {k : Nat} {u9 : Gt} {r : Gt} (h : Zr k u9 = some r) : FnO Tryz.prog 39 [.v (.agg (Gt.q u9)) [], .v (.func 40 []) []] (.v (.agg (Gt.qx r)) (Gt.h3_31t r)) [] := (Z77 k) h

def Z4m (k : Nat) (z4 : Gt) : Option Gt :=
 (Zr k z4).bind fun u3j =>
 some u3j
theorem Z9l {k : Nat} {z4 : Gt} {r : Gt} (h : Z4m k z4 = some r) : FnO Tryz.prog 20 [.v (.agg (Gt.q z4)) []] (.v (.agg (Gt.qx r)) (Gt.h3_31t r)) [] := by
 refine FnO.o2 Tryz.func20 rfl fun _ _ _ _ _ _ => ?_
 unfold Z4m at h
 refine Wc.s0 [1, 2] [1, 2] ?_
 obtain ⟨u3j, h3, h⟩ := oc h fun _ => Z8z
 refine Wc.s2 [{}, hC h3, hK [4]] [2] [2] (o1 h3) ?_
 cases h; exact Wc.ret dn

def Z53 (k : Nat) (u2p : Gc) : Option Gc :=
 (Z4m k u2p.gA).bind fun ut =>
 (Z4m k u2p.gD).bind fun u9 =>
 some (Gc.mk ut u9 u2p.gS)
theorem Zdo {k : Nat} {u2p : Gc} {r : Gc} (h : Z53 k u2p = some r) : FnO Tryz.prog 51 [.v (.agg (Gc.q u2p)) []] (.v (.agg (Gc.qx r)) [(3, .ex 31 true (List.map Gt.c r.gA.ga)), (7, .ex 31 true (List.map Gt.c r.gD.ga))]) [] := by
 refine FnO.o2 Tryz.func51 rfl fun _ _ _ _ _ _ => ?_
 unfold Z53 at h
 refine Wc.s0 [1, 2] [1, 2] ?_
 apply Wc.seq
 obtain ⟨ut, h8, h⟩ := oc h fun _ => Z9l
 obtain ⟨u9, h9, h⟩ := oc h fun _ => Z9l
 refine Wc.dk hmix [{}, {}, hC h8, {}, {}, hC h9, {}, {}, hK [5, 8], hK [11]] [] [2] [2] [] (o2 h8 h9) ?_
 cases h; exact Wc.ret dn

def Z47 (k : Nat) (u00 : List Gc) : Nat → (List Gc) → Int → Option (Out (List Gc) (List Gc))
 | 0, _, _ => none
 | m + 1, u1l, vd =>
  if (decide (vd < (u00.length : Int))) = true then
   (at' u00 vd).bind fun u49 =>
   (Z53 k u49).bind fun u13 =>
   if u1l.length + [u13].length ≤ 1073741824 then
    Z47 k u00 m (u1l ++ [u13]) (wr.i64 (vd + 1))
   else none
  else
   some (.done u1l)
def Z3s (k : Nat) (u00 : List Gc) : Option (List Gc) :=
 (Z47 k u00 k [] 0).bind fun out1 => match out1 with
 | .ret r => some r
 | .done u3k =>
  some u3k
theorem Zcw {k : Nat} {u00 : List Gc} {r : (List Gc)} (h : Z3s k u00 = some r) : FnO Tryz.prog 33 [.v (.sl (List.map Gc.c u00)) []] (.v (.slx) [(0, .ex 63 true (List.map Gc.c r))]) [] := by
 refine FnO.o2 Tryz.func33 rfl fun _ _ _ _ _ _ => ?_
 unfold Z3s at h
 refine Wc.s0 [0] [] ?_
 refine Wc.s0 [0, 3] [] ?_
 apply Wc.seq
 refine Wc.s2 [{}, hL u00] [3, 6, 7, 8] [] (o1 (Z2 Gc.c u00)) ?_
 obtain ⟨out1, h10, h⟩ := Z2d h
 refine Wc.lastJ (fun st => ∃ (u3k : List Gc), out1 = .done u3k ∧ st = ⟨[(3, (.v (.slx), [(0, .ex 63 true (List.map Gc.c u3k))]))], [], []⟩) ?_ ?_
 ·apply Wc.block
  refine Wc.fk [.ow (.t 3 0) true] [3, 6, 7, 8] [] [] ?_
  refine Wc.loop (fun m st => ∃ (u1l : List Gc) (vd : Int), st = ⟨[(3, (.v (.slx), [(0, .ex 63 true (List.map Gc.c u1l))])), tV 6 (.sl (List.map Gc.c u00)), tI 7 (u00.length : Int), tI 8 vd], [], []⟩ ∧ Z47 k u00 m u1l vd = some out1) ?_ k ⟨_, _, stB h10⟩
  rintro m st ⟨u1l, vd, rfl, h10⟩
  rcases m with _ | m
  ·exact (Zk h10).elim
  refine Wc.s0 [3, 6, 7, 8, 9] [] ?_
  apply Wc.seq
  refine Wc.ci h10 (fun _ h10 => ?_) (fun _ h10 => ?_)
  ·refine Wc.ks [3, 6, 7, 8] [] ?_
   apply Wc.seq
   apply Wc.block
   obtain ⟨u49, h12, h10⟩ := oc h10 fun u49 h12 => (Z11 (c := Gc.c) (Gc.c_eq u49) Gc.c_len h12)
   refine Wc.s2 [hE h12] [3, 5, 6, 7, 8] [5] (o2 h12 (lenE h12 9)) ?_
   obtain ⟨u13, h14, h10⟩ := oc h10 fun _ => Zdo
   have h15 := (Z1l (c := Gc.c) (x := u13) (Gc.c_eq u13) (Z2s Gc.c))
   obtain ⟨h16, h10⟩ := Z4 h10
   have h17 := (Z30 Gc.c u1l [u13])
   refine Wc.k2 [hK [3], {}, hC h14, { hB h15 with tk := [14], md := 2 }, { hB h17 with tk := [12, 15], md := 2 }, hK [16]] [3, 6, 7, 8] [] (oC h14 (oC h15 (oAn h17 Gc.c_len h16 AllP.nil))) ?_
   refine Wc.k0 [3, 6, 7, 8] [] ?_
   exact ⟨_, Nat.lt_succ_self _, _, _, stB h10⟩
  refine Wc.ke [3] [] ?_
  cases h10; exact ⟨_, rfl, by kernel_rfl⟩
 rintro st ⟨u3k, rfl, rfl⟩
 refine Wc.s1 [hK [3], hK [18]] [2] [] ?_
 cases h; exact Wc.ret dn

def Z5b (k : Nat) (vm : Gd) : Option Gd :=
 (Z3s k vm.gq).bind fun u6l =>
 if ([] : List ByteArray).length + vm.gy.length ≤ 1073741824 then
  some (Gd.mk u6l vm.gy)
 else none
theorem Zcm {k : Nat} {vm : Gd} {r : Gd} (h : Z5b k vm = some r) : FnO Tryz.prog 11 [.v (.agg (Gd.q vm)) []] (.v (.agg [.slx, .slx]) [(0, .ex 63 true (List.map Gc.c r.gq)), (1, .ex 9 true (List.map cS r.gy))]) [] := by
 refine FnO.o2 Tryz.func11 rfl fun _ _ _ _ _ _ => ?_
 unfold Z5b at h
 refine Wc.s0 [1, 2] [1, 2] ?_
 apply Wc.seq
 obtain ⟨u6l, h5, h⟩ := oc h fun _ => Zcw
 obtain ⟨h6, h⟩ := Z4 h
 have h7 := (Zh9 cS vm.gy)
 refine Wc.dk hmix [{}, {}, hC h5, {}, {}, { hB h7 with md := 2 }, hK [5, 8], hK [9]] [] [2] [2] [] (oC h5 (oEs h7 Z118 Zau h6 AllP.nil)) ?_
 cases h; exact Wc.ret dn

def Z5s (k : Nat) (u20 : Gc) : Option (Gc × Bool) :=
 (Zbd k u20.gA).bind fun u3h =>
 if (!u3h) = true then
  some (Gc.mk (Gt.mk 0 (bs []) 0 []) (Gt.mk 0 (bs []) 0 []) (bs []), false)
 else
  (Z3u k u20.gD).bind fun u32 =>
  if (!u32) = true then
   some (Gc.mk (Gt.mk 0 (bs []) 0 []) (Gt.mk 0 (bs []) 0 []) (bs []), false)
  else
   (Z6d k u20).bind fun ua3 =>
   some (ua3, true)
def Za6 (k : Nat) (v9 : Gt) (u1w : ByteArray) : Option (Gc × Bool) :=
 (Z3u k v9).bind fun u3g =>
 if (!u3g) = true then
  some (Gc.mk (Gt.mk 0 (bs []) 0 []) (Gt.mk 0 (bs []) 0 []) (bs []), false)
 else
  (Z92 k (bs [116, 114, 117, 101])).bind fun zh =>
  (Z3r k v9 (bs [58, 45]) 2).bind fun u1d =>
  if u1d = true then
   (at' v9.ga 0).bind fun vw =>
   (at' v9.ga 1).bind fun zf =>
   if (zf.gi == 1) = true then
    (Z3b k (bs [99, 97, 108, 108]) [zf]).bind fun u2q =>
    Z5s k (Gc.mk vw u2q u1w)
   else
    Z5s k (Gc.mk vw zf u1w)
  else
   Z5s k (Gc.mk v9 zh u1w)
theorem Zr5 {k : Nat} {v9 : Gt} {u1w : ByteArray} {r : Gc × Bool} (h : Za6 k v9 u1w = some r) : FnO Tryz.prog 124 [.v (.agg (Gt.q v9)) [], .v (.str u1w) []] (.v (.tup [.agg (Gc.q r.1), .bool r.2]) [(3, .app 31), (7, .app 31)]) [] := by
 refine FnO.o2 Tryz.func124 rfl fun _ _ _ _ _ _ => ?_
 unfold Za6 at h
 refine Wc.s0 [1, 2, 4] [2, 4] ?_
 apply Wc.seq
 obtain ⟨u3g, h29, h⟩ := oc h fun _ => Z6a
 refine Wc.s2 [{}, hC h29] [1, 2, 4, 9] [2, 4] (o1 h29) ?_
 refine Wc.ci h (fun _ h => ?_) (fun _ h => ?_)
 ·refine Wc.s1 [{}, hK [10]] [4, 5] [4] ?_
  cases h; exact Wc.ret dn
 refine Wc.ks [1, 2, 4] [2, 4] ?_
 apply Wc.seq
 obtain ⟨zh, h32, h⟩ := oc h fun _ => Zcn
 refine Wc.dk hmix [{}, hC h32, {}, hK [12], {}, hK [14]] [] [2, 4, 6] [2, 4, 6] [] (o1 h32) ?_
 refine Wc.seqJ (fun st => ∃ (u20 : Gc), st = ⟨[tP 4 4, tP 6 6], [(4, .cells [aI 0, .str (bs []), aI 0, .sl (List.map Gt.c []), aI 0, .str (bs []), aI 0, .sl (List.map Gt.c []), .str (bs [])] [(3, .app 31), (7, .app 31)]), bC 6 (Gc.q u20)], []⟩ ∧ Z5s k u20 = some r) ?_ ?_
 ·obtain ⟨u1d, h42, h⟩ := oc h fun _ => Zak
  refine Wc.s2 [{}, hC h42] [2, 4, 6, 16] [2, 4, 6] (o1 h42) ?_
  refine Wc.ci h (fun _ h => ?_) (fun _ h => ?_)
  ·apply Wc.seq
   obtain ⟨vw, h45, h⟩ := oc h fun vw h45 => (Z11 (c := Gt.c) (Gt.c_eq vw) Gt.c_len h45)
   obtain ⟨zf, h46, h⟩ := oc h fun zf h46 => (Z11 (c := Gt.c) (Gt.c_eq zf) Gt.c_len h46)
   refine Wc.dk hmix [{}, {}, hE h45, {}, {}, {}, hE h46] [] [4, 6] [4, 6] [] (o4 h45 (lenE h45 4) h46 (lenE h46 4)) ?_
   refine Wc.s0 [4, 6, 30] [4, 6] ?_
   refine Wc.ci h (fun _ h => ?_) (fun _ h => ?_)
   ·have h50 := (Z1l (c := Gt.c) (x := zf) (Gt.c_eq zf) (Z2s Gt.c))
    obtain ⟨u2q, h51, h⟩ := oc h fun _ => Z68
    refine Wc.k2 [{}, {}, hB h50, hC h51] [4, 6] [4, 6] (o2 h50 h51) ?_
    exact ⟨_, stB h⟩
   refine Wc.ks [4, 6] [4, 6] ?_
   exact ⟨_, stB h⟩
  refine Wc.fk [.un (.b 6 7)] [4, 6] [4, 6] [] ?_
  apply Wc.skip
  exact ⟨_, stB h⟩
 rintro st ⟨u20, rfl, h⟩
 apply Wc.seq
 obtain ⟨u3h, h34, h⟩ := oc h fun _ => Zpc
 rcases oif h with ⟨h35, h⟩ | ⟨h35, h⟩
 ·refine Wc.s2 [{}, {}, hC h34, {}, rT] [4, 6, 45] [4, 6] (o2 h34 (cb h35)) ?_
  refine Wc.cT rfl ?_
  refine Wc.s1 [{}, hK [46]] [4, 5] [4] ?_
  cases h; exact Wc.ret dn
 obtain ⟨u32, h36, h⟩ := oc h fun _ => Z6a
 refine Wc.s2 [{}, {}, hC h34, {}, rF, {}, {}, hC h36] [4, 6, 45] [4, 6] (o3 h34 (cb h35) h36) ?_
 refine Wc.ci h (fun _ h => ?_) (fun _ h => ?_)
 ·refine Wc.s1 [{}, hK [46]] [4, 5] [4] ?_
  cases h; exact Wc.ret dn
 refine Wc.ks [4, 6] [4, 6] ?_
 obtain ⟨ua3, h40, h⟩ := oc h fun _ => Zga
 refine Wc.s2 [{}, hC h40, hK [48]] [4, 5] [4] (o1 h40) ?_
 cases h; exact Wc.ret dn

def Zbj (k : Nat) (u1q : Gd) (u29 : Gc) : Option (Gd × Bool) :=
 (Z5b k u1q).bind fun u1v =>
 (Z53 k u29).bind fun u11 =>
 if u1v.gq.length + [u11].length ≤ 1073741824 then
  (Zgl k (Gd.mk (u1v.gq ++ [u11]) u1v.gy)).bind fun u33 =>
  if (!u33) = true then
   (Z5b k u1q).bind fun ua4 =>
   some (ua4, false)
  else
   some (Gd.mk (u1v.gq ++ [u11]) u1v.gy, true)
 else none
theorem Ztt {k : Nat} {u1q : Gd} {u29 : Gc} {r : Gd × Bool} (h : Zbj k u1q u29 = some r) : FnO Tryz.prog 125 [.v (.agg (Gd.q u1q)) [], .v (.agg (Gc.q u29)) []] (.v (.tup [.agg [.slx, .slx], .bool r.2]) [(0, .ex 63 true (List.map Gc.c r.1.gq)), (1, .ex 9 true (List.map cS r.1.gy))]) [] := by
 refine FnO.o2 Tryz.func125 rfl fun _ _ _ _ _ _ => ?_
 unfold Zbj at h
 refine Wc.s0 [2, 3, 4] [2, 3, 4] ?_
 obtain ⟨u1v, h23, h⟩ := oc h fun _ => Zcm
 refine Wc.s2 [{}, hC h23, {}, hK [8]] [2, 3, 4, 6] [2, 3, 4, 6] (o1 h23) ?_
 apply Wc.seq
 obtain ⟨u11, h25, h⟩ := oc h fun _ => Zdo
 have h26 := (Z1l (c := Gc.c) (x := u11) (Gc.c_eq u11) (Z2s Gc.c))
 obtain ⟨h27, h⟩ := Z4 h
 have h28 := (Z30 Gc.c u1v.gq [u11])
 refine Wc.dk hmix [{}, hM 1, {}, hC h25, { hB h26 with tk := [12], md := 2 }, { hB h28 with tk := [10, 13], md := 2 }, {}, hK [14]] [.so 6] [2, 4, 6] [2, 4, 6] [] (oC h25 (oC h26 (oAn h28 Gc.c_len h27 AllP.nil))) ?_
 apply Wc.seq
 obtain ⟨u33, h30, h⟩ := oc h fun _ => Zwj
 refine Wc.s2 [{}, hC h30] [2, 4, 6, 18] [2, 4, 6] (o1 h30) ?_
 refine Wc.ci h (fun _ h => ?_) (fun _ h => ?_)
 ·obtain ⟨ua4, h33, h⟩ := oc h fun _ => Zcm
  refine Wc.s2 [{}, hC h33, hK [20]] [4, 5] [4] (o1 h33) ?_
  cases h; exact Wc.ret dn
 refine Wc.ks [4, 6] [4, 6] ?_
 refine Wc.s1 [hM 1, hK [21]] [4, 5] [4] ?_
 cases h; exact Wc.ret dn

def Z7e (k : Nat) (u11 : Gc) : Option Gt :=
 (Z2m k u11.gA).bind fun v9 =>
 (Z2m k u11.gD).bind fun uk =>
 (Z3b k (bs [58, 45]) [v9, uk]).bind fun zu =>
 some zu
theorem Znl {k : Nat} {u11 : Gc} {r : Gt} (h : Z7e k u11 = some r) : FnO Tryz.prog 126 [.v (.agg (Gc.q u11)) []] (.v (.agg (Gt.q r)) []) [] := by
 refine FnO.o2 Tryz.func126 rfl fun _ _ _ _ _ _ => ?_
 unfold Z7e at h
 refine Wc.s0 [1, 2] [1, 2] ?_
 apply Wc.seq
 obtain ⟨v9, h28, h⟩ := oc h fun _ => Z69
 obtain ⟨uk, h29, h⟩ := oc h fun _ => Z69
 have h30 := (Z1l (c := Gt.c) (x := v9) (Gt.c_eq v9) (Z1l (c := Gt.c) (x := uk) (Gt.c_eq uk) (Z2s Gt.c)))
 obtain ⟨zu, h31, h⟩ := oc h fun _ => Z68
 refine Wc.dk hmix [{}, {}, hC h28, {}, {}, hC h29, hB h30, hC h31] [] [2] [2] [] (o4 h28 h29 h30 h31) ?_
 cases h; exact Wc.ret dn

def Z1x (k : Nat) (l : List Gc) (i j : Int) : Option (List Gc) :=
 if (0 ≤ i ∧ i < j) ∧ j ≤ (l.length : Int) then some (l.take i.toNat ++ l.drop j.toNat) else none
theorem Z5w {k : Nat} {l : List Gc} {i j : Int} {r : List Gc} (h : Z1x k l i j = some r) : FnO Tryz.prog 127 [.v .slx [(0, .ex 63 false (List.map Gc.c l))], .v (aI i) [], .v (aI j) []] (.v (.slx) [(0, .ex 63 false (List.map Gc.c r))]) [] := by
 obtain ⟨⟨⟨h0, h1⟩, h2⟩, h⟩ := Z4 h
 cases h
 obtain ⟨n, rfl⟩ := Int.eq_ofNat_of_zero_le h0
 obtain ⟨m, rfl⟩ := Int.eq_ofNat_of_zero_le (show 0 ≤ j by omega)
 have q := Zyc Z115 (by kernel_rfl) (by decide) (rows := l.map Gc.c) (i := n) (j := m) (fun c hc => by
  obtain ⟨x, _, rfl⟩ := List.mem_map.1 hc
  exact Gc.c_leaf x) (by omega) (by rw [List.length_map]; omega)
 rw [← List.map_take, ← List.map_drop, ← List.map_append] at q
 exact q

def Z72 (k : Nat) (Z3f : (List Gt) → Gt → Int → Option (Int × Int)) (v7 : Int) : Option (Int × Int) :=
 (Z35 k v7 (-999999999) 999999999).bind fun u2e =>
 if (!u2e) = true then
  some (0, 3)
 else
  some (v7, 0)
def Zbe (k : Nat) (Z3f : (List Gt) → Gt → Int → Option (Int × Int)) (ze : Bool) (u2s : Int × Int) (ub : Gt) (up : Int) : Option (Int × Int) :=
 if (!ze) = true then
  Z72 k Z3f (wr.i64 (0 - u2s.1))
 else
  if (sEq ub.gn (bs [43])) = true then
   Z72 k Z3f (wr.i64 (u2s.1 + up))
  else
   if (sEq ub.gn (bs [45])) = true then
    Z72 k Z3f (wr.i64 (u2s.1 - up))
   else
    if (sEq ub.gn (bs [42])) = true then
     Z72 k Z3f (wr.i64 (u2s.1 * up))
    else
     if (up == 0) = true then
      some (0, 4)
     else
      if (up : Int) ≠ 0 then
       Z72 k Z3f (wr.i64 (Int.tdiv u2s.1 up))
      else none
def Zbf (k : Nat) (Z3f : (List Gt) → Gt → Int → Option (Int × Int)) (ub : Gt) (u0b : List Gt) (u7 : Int) (ze : Bool) : Option (Int × Int) :=
 (at' ub.ga 0).bind fun v9 =>
 (Z3f u0b v9 (wr.i64 (u7 + 1))).bind fun u2s =>
 if (u2s.2 != 0) = true then
  some (0, u2s.2)
 else
  if ze = true then
   (at' ub.ga 1).bind fun un =>
   (Z3f u0b un (wr.i64 (u7 + 1))).bind fun u89 =>
   if (u89.2 != 0) = true then
    some (0, u89.2)
   else
    Zbe k Z3f ze u2s ub u89.1
  else
   Zbe k Z3f ze u2s ub 0
def Z73 (k : Nat) (Z3f : (List Gt) → Gt → Int → Option (Int × Int)) (ub : Gt) (u0b : List Gt) (u7 : Int) (ze : Bool) : Option (Int × Int) :=
 if (!ze) = true then
  (Z3r k ub (bs [45]) 1).bind fun u1i =>
  if (!u1i) = true then
   some (0, 2)
  else
   Zbf k Z3f ub u0b u7 ze
 else
  Zbf k Z3f ub u0b u7 ze
mutual
def Z46 : Nat → (List Gt) → Gt → Int → Option (Int × Int)
 | 0, _, _, _ => none
 | k + 1, u0b, ui, u7 =>
  (Z9w k u0b ui).bind fun ub =>
  if (ub.gi == 1) = true then
   some (0, 1)
  else
   if (ub.gi == 3) = true then
    (Z35 k ub.gj (-999999999) 999999999).bind fun zm =>
    if (!zm) = true then
     some (0, 3)
    else
     some (ub.gj, 0)
   else
    if (ub.gi != 4) = true then
     some (0, 2)
    else
     if (decide (u7 > 40)) = true then
      some (0, 2)
     else
      if ((ub.ga.length : Int) == 2) = true then
       if (sEq ub.gn (bs [43])) = true then
        Z73 k (Z46 k) ub u0b u7 true
       else
        if (sEq ub.gn (bs [45])) = true then
         Z73 k (Z46 k) ub u0b u7 true
        else
         if (sEq ub.gn (bs [42])) = true then
          Z73 k (Z46 k) ub u0b u7 true
         else
          Z73 k (Z46 k) ub u0b u7 (sEq ub.gn (bs [47, 47]))
      else
       Z73 k (Z46 k) ub u0b u7 false
end
theorem Zrf : ∀ k : Nat, (∀ {u0b : List Gt} {ui : Gt} {u7 : Int} {r : Int × Int}, Z46 k u0b ui u7 = some r → FnO Tryz.prog 93 [.v (.sl (List.map Gt.c u0b)) [], .v (.agg (Gt.q ui)) [], .v (aI u7) []] (.v (.tup [aI r.1, aI r.2]) []) []) := by
 intro k
 induction k with
 | zero =>
  ·intro u0b ui u7 r h
   exact (Zk (by rw [Z46] at h; exact h)).elim
 | succ k ih =>
  have Zlv := @ih
  ·intro u0b ui u7 r h
   rw [Z46] at h
   refine FnO.o2 Tryz.func93 rfl fun _ _ _ _ _ _ => ?_
   refine Wc.s0 [0, 2, 4] [4] ?_
   obtain ⟨ub, h23, h⟩ := oc h fun _ => Zp9
   refine Wc.s2 [{}, {}, hC h23] [0, 2, 4] [4] (o1 h23) ?_
   apply Wc.seq
   apply Wc.block
   refine Wc.s0 [0, 2, 4, 16] [4] ?_
   refine Wc.ci h (fun _ h => ?_) (fun _ h => ?_)
   ·refine Wc.s0 [6, 7] [] ?_
    cases h; exact Wc.ret dn
   refine Wc.s0 [0, 2, 4, 20] [4] ?_
   refine Wc.ci h (fun _ h => ?_) (fun _ h => ?_)
   ·apply Wc.seq
    obtain ⟨zm, h27, h⟩ := oc h fun _ => Z4q
    refine Wc.s2 [{}, {}, hC h27] [4, 27] [4] (o1 h27) ?_
    refine Wc.ci h (fun _ h => ?_) (fun _ h => ?_)
    ·refine Wc.s0 [6, 7] [] ?_
     cases h; exact Wc.ret dn
    refine Wc.ks [4] [4] ?_
    refine Wc.s0 [6, 7] [] ?_
    cases h; exact Wc.ret dn
   rcases oif h with ⟨h30, h⟩ | ⟨h30, h⟩
   ·refine Wc.s2 [{}, {}, {}, rT] [0, 2, 4, 30] [4] (o1 (cb h30)) ?_
    refine Wc.cT rfl ?_
    refine Wc.s0 [6, 7] [] ?_
    cases h; exact Wc.ret dn
   refine Wc.s2 [{}, {}, {}, rF] [0, 2, 4, 30] [4] (o1 (cb h30)) ?_
   refine Wc.ci h (fun _ h => ?_) (fun _ h => ?_)
   ·refine Wc.s0 [6, 7] [] ?_
    cases h; exact Wc.ret dn
   refine Wc.ks [0, 2, 4] [4] ?_
   refine Wc.seqJ (fun st => ∃ (ze : Bool), st = ⟨[tV 0 (.sl (List.map Gt.c u0b)), tI 2 u7, tP 4 4, tB 8 ze], [bC 4 (Gt.q ub)], []⟩ ∧ Z73 k (Z46 k) ub u0b u7 ze = some r) ?_ ?_
   ·rcases oif h with ⟨h56, h⟩ | ⟨h56, h⟩
    ·rcases oif h with ⟨h57, h⟩ | ⟨h57, h⟩
     ·refine Wc.k2 [{}, {}, hL ub.ga, {}, rT, {}, {}, {}, rT] [0, 2, 4, 8] [4] (o3 (Z2 Gt.c ub.ga) (cb h56) (cb h57)) ?_
      exact ⟨_, stB h⟩
     rcases oif h with ⟨h58, h⟩ | ⟨h58, h⟩
     ·refine Wc.k2 [{}, {}, hL ub.ga, {}, rT, {}, {}, {}, rF, {}, {}, {}, {}, rT] [0, 2, 4, 8] [4] (o4 (Z2 Gt.c ub.ga) (cb h56) (cb h57) (cb h58)) ?_
      exact ⟨_, stB h⟩
     rcases oif h with ⟨h59, h⟩ | ⟨h59, h⟩
     ·refine Wc.k2 [{}, {}, hL ub.ga, {}, rT, {}, {}, {}, rF, {}, {}, {}, {}, rF, {}, {}, {}, {}, rT] [0, 2, 4, 8] [4] (oC (Z2 Gt.c ub.ga) (oC (cb h56) (oC (cb h57) (oC (cb h58) (oC (cb h59) AllP.nil))))) ?_
      exact ⟨_, stB h⟩
     refine Wc.k2 [{}, {}, hL ub.ga, {}, rT, {}, {}, {}, rF, {}, {}, {}, {}, rF, {}, {}, {}, {}, rF] [0, 2, 4, 8] [4] (oC (Z2 Gt.c ub.ga) (oC (cb h56) (oC (cb h57) (oC (cb h58) (oC (cb h59) AllP.nil))))) ?_
     exact ⟨_, stB h⟩
    refine Wc.k2 [{}, {}, hL ub.ga, {}, rF] [0, 2, 4, 8] [4] (o2 (Z2 Gt.c ub.ga) (cb h56)) ?_
    exact ⟨_, stB h⟩
   rintro st ⟨ze, rfl, h⟩
   refine Wc.seqJ (fun st => st = ⟨[tV 0 (.sl (List.map Gt.c u0b)), tI 2 u7, tP 4 4, tB 8 ze], [bC 4 (Gt.q ub)], []⟩ ∧ Zbf k (Z46 k) ub u0b u7 ze = some r) ?_ ?_
   ·rcases oif h with ⟨h52, h⟩ | ⟨h52, h⟩
    ·obtain ⟨u1i, h53, h⟩ := oc h fun _ => Zak
     refine Wc.s2 [{}, {}, rT, {}, hC h53] [0, 2, 4, 8, 68] [4] (o2 (cb h52) h53) ?_
     refine Wc.ci h (fun _ h => ?_) (fun _ h => ?_)
     ·refine Wc.s0 [6, 7] [] ?_
      cases h; exact Wc.ret dn
     refine Wc.ks [0, 2, 4, 8] [4] ?_
     exact stB h
    refine Wc.s2 [{}, {}, rF] [0, 2, 4, 8, 68] [4] (o1 (cb h52)) ?_
    refine Wc.cF rfl ?_
    refine Wc.ks [0, 2, 4, 8] [4] ?_
    exact stB h
   rintro st ⟨rfl, h⟩
   obtain ⟨v9, h32, h⟩ := oc h fun v9 h32 => (Z11 (c := Gt.c) (Gt.c_eq v9) Gt.c_len h32)
   obtain ⟨u2s, h33, h⟩ := oc h fun _ => Zlv
   refine Wc.s2 [{}, {}, {}, hE h32, {}, {}, {}, hC h33] [0, 2, 4, 8, 9, 10] [4] (o3 h32 (lenE h32 4) h33) ?_
   apply Wc.seq
   refine Wc.s0 [0, 2, 4, 8, 9, 10, 81] [4] ?_
   refine Wc.ci h (fun _ h => ?_) (fun _ h => ?_)
   ·refine Wc.s0 [6, 7] [] ?_
    cases h; exact Wc.ret dn
   refine Wc.ks [0, 2, 4, 8, 9] [4] ?_
   refine Wc.s0 [0, 2, 4, 8, 9, 11] [4] ?_
   refine Wc.seqJ (fun st => ∃ (up : Int), st = ⟨[tP 4 4, tB 8 ze, tI 9 u2s.1, tI 11 up], [bC 4 (Gt.q ub)], []⟩ ∧ Zbe k (Z46 k) ze u2s ub up = some r) ?_ ?_
   ·refine Wc.s0 [0, 2, 4, 8, 9, 11, 83] [4] ?_
    refine Wc.ci h (fun _ h => ?_) (fun _ h => ?_)
    ·obtain ⟨un, h47, h⟩ := oc h fun un h47 => (Z11 (c := Gt.c) (Gt.c_eq un) Gt.c_len h47)
     obtain ⟨u89, h48, h⟩ := oc h fun _ => Zlv
     refine Wc.s2 [{}, {}, {}, hE h47, {}, {}, {}, hC h48] [4, 8, 9, 10, 11] [4] (o3 h47 (lenE h47 4) h48) ?_
     refine Wc.s0 [4, 8, 9, 10, 11, 96] [4] ?_
     refine Wc.ci h (fun _ h => ?_) (fun _ h => ?_)
     ·refine Wc.s0 [6, 7] [] ?_
      cases h; exact Wc.ret dn
     refine Wc.ks [4, 8, 9, 11] [4] ?_
     exact ⟨_, stB h⟩
    refine Wc.ks [4, 8, 9, 11] [4] ?_
    exact ⟨_, stB h⟩
   rintro st ⟨up, rfl, h⟩
   refine Wc.s0 [4, 8, 9, 11, 12] [4] ?_
   refine Wc.seqJ (fun st => ∃ (v7 : Int), st = ⟨[tI 12 v7], [], []⟩ ∧ Z72 k (Z46 k) v7 = some r) ?_ ?_
   ·apply Wc.block
    refine Wc.s0 [4, 9, 11, 12, 103] [4] ?_
    refine Wc.ci h (fun _ h => ?_) (fun _ h => ?_)
    ·refine Wc.ks [12] [] ?_
     exact ⟨_, stB h⟩
    refine Wc.s0 [4, 9, 11, 106] [4] ?_
    refine Wc.ci h (fun _ h => ?_) (fun _ h => ?_)
    ·refine Wc.k0 [12] [] ?_
     exact ⟨_, stB h⟩
    refine Wc.s0 [4, 9, 11, 113] [4] ?_
    refine Wc.ci h (fun _ h => ?_) (fun _ h => ?_)
    ·refine Wc.k0 [12] [] ?_
     exact ⟨_, stB h⟩
    refine Wc.s0 [9, 11, 120] [] ?_
    refine Wc.ci h (fun _ h => ?_) (fun _ h => ?_)
    ·refine Wc.k0 [12] [] ?_
     exact ⟨_, stB h⟩
    refine Wc.s0 [9, 11, 127] [] ?_
    refine Wc.ci h (fun _ h => ?_) (fun _ h => ?_)
    ·refine Wc.s0 [6, 7] [] ?_
     cases h; exact Wc.ret dn
    obtain ⟨h45, h⟩ := Z4 h
    refine Wc.k2 [] [12] [] (o1 h45) ?_
    exact ⟨_, stB h⟩
   rintro st ⟨v7, rfl, h⟩
   apply Wc.seq
   obtain ⟨u2e, h37, h⟩ := oc h fun _ => Z4q
   refine Wc.s2 [{}, hC h37] [12, 132] [] (o1 h37) ?_
   refine Wc.ci h (fun _ h => ?_) (fun _ h => ?_)
   ·refine Wc.s0 [6, 7] [] ?_
    cases h; exact Wc.ret dn
   refine Wc.ks [12] [] ?_
   refine Wc.s0 [6, 7] [] ?_
   cases h; exact Wc.ret dn
theorem Zr1 {k : Nat} {u0b : List Gt} {ui : Gt} {u7 : Int} {r : Int × Int} (h : Z46 k u0b ui u7 = some r) : FnO Tryz.prog 93 [.v (.sl (List.map Gt.c u0b)) [], .v (.agg (Gt.q ui)) [], .v (aI u7) []] (.v (.tup [aI r.1, aI r.2]) []) [] := (Zrf k) h

def Zj7 (k : Nat) (uy : Int) : Option Gt :=
 some (Gt.mk 3 (bs []) uy [])
theorem Zwh {k : Nat} {uy : Int} {r : Gt} (h : Zj7 k uy = some r) : FnO Tryz.prog 94 [.v (aI uy) []] (.v (.agg (Gt.q r)) [(3, .app 31)]) [] := by
 refine FnO.o2 Tryz.func94 rfl fun _ _ _ _ _ _ => ?_
 unfold Zj7 at h
 refine Wc.s0 [0, 2] [2] ?_
 refine Wc.s1 [{}, {}, hK [4]] [2] [2] ?_
 cases h; exact Wc.ret dn

def Z4y (k : Nat) (z8 : Gs) (ve : Gt) : Option Gs :=
 (Z1h k z8 ve).bind fun u0o =>
 if (!u0o.2.2) = true then
  some u0o.1
 else
  (Z74 k u0o.2.1).bind fun u0p =>
  if (decide ((wr.i64 ((u0o.1.gf.gf.size : Int) + (u0p.size : Int))) > 2000)) = true then
   (Z1g k u0o.1 1).bind fun u6m =>
   some u6m
  else
   if Z36 u0o.1.gf.gf u0p then
    some (Gs.mk u0o.1.gDb u0o.1.gU u0o.1.gk u0o.1.gl u0o.1.gw u0o.1.gh u0o.1.gc (Gw.mk u0o.1.gf.gp u0o.1.gf.gz u0o.1.gf.gx (u0o.1.gf.gf ++ u0p) u0o.1.gf.gDb u0o.1.gf.gl) u0o.1.gv)
   else none
theorem Zkb {k : Nat} {z8 : Gs} {ve : Gt} {r : Gs} (h : Z4y k z8 ve = some r) : FnO Tryz.prog 95 [.p (Gs.k z8) (Gs.h z8), .v (.agg (Gt.q ve)) []] (.v (.tup []) []) [(0, .p (Gs.k r) (Gs.h r))] := by
 refine FnO.o2 Tryz.func95 rfl fun _ _ _ _ _ _ => ?_
 unfold Z4y at h
 refine Wc.s0 [0, 3] [3, 1000000] ?_
 obtain ⟨u0o, h51, h⟩ := oc h fun _ => Z4v
 refine Wc.s2 [{}, {}, hC h51] [0, 4, 5] [4, 1000000] (o1 h51) ?_
 apply Wc.seq
 refine Wc.s0 [0, 4, 14] [4, 1000000] ?_
 refine Wc.ci h (fun _ h => ?_) (fun _ h => ?_)
 ·refine Wc.fk [] [] [1000000] [] ?_
  refine Wc.ret ?_
  cases h; exact ⟨(by first | exact .inl rfl | exact .inr rfl), by kernel_rfl, by kernel_rfl⟩
 refine Wc.ks [0, 4] [4, 1000000] ?_
 obtain ⟨u0p, h54, h⟩ := oc h fun _ => Zpd
 refine Wc.s2 [{}, hC h54] [0, 6] [1000000] (o1 h54) ?_
 apply Wc.seq
 refine Wc.s0 [0, 6, 26] [1000000] ?_
 refine Wc.ci h (fun _ h => ?_) (fun _ h => ?_)
 ·obtain ⟨u6m, h57, h⟩ := oc h fun _ => Z2a
  refine Wc.s2 [{}, hC h57] [] [1000000] (o1 h57) ?_
  refine Wc.ret ?_
  cases h; exact ⟨(by first | exact .inl rfl | exact .inr rfl), by kernel_rfl, by kernel_rfl⟩
 refine Wc.ks [0, 6] [1000000] ?_
 obtain ⟨h59, h⟩ := Z4 h
 refine Wc.k2 [] [] [1000000] (o1 h59) ?_
 cases h; exact ⟨(by first | exact .inl rfl | exact .inr rfl), by kernel_rfl, by kernel_rfl⟩

def Z42 (k : Nat) (u6 : Gs) (vu : Gt) (u0p : ByteArray) : Option Gs :=
 (Z1h k u6 vu).bind fun zd =>
 if (!zd.2.2) = true then
  some zd.1
 else
  (Zc2 k zd.2.1 0).bind fun u2q =>
  (Za6 k u2q (bs [])).bind fun u93 =>
  if (!u93.2) = true then
   (Z9 k zd.1 2 u0p).bind fun u6e =>
   some u6e
  else
   (Zbj k zd.1.gDb u93.1).bind fun u5m =>
   if (!u5m.2) = true then
    (Z1g k zd.1 1).bind fun u4v =>
    some u4v
   else
    some (Gs.mk u5m.1 zd.1.gU zd.1.gk zd.1.gl zd.1.gw zd.1.gh zd.1.gc zd.1.gf zd.1.gv)
theorem Zh2 {k : Nat} {u6 : Gs} {vu : Gt} {u0p : ByteArray} {r : Gs} (h : Z42 k u6 vu u0p = some r) : FnO Tryz.prog 96 [.p (Gs.k u6) (Gs.h u6), .v (.agg (Gt.q vu)) [], .v (.str u0p) []] (.v (.tup []) []) [(0, .p (Gs.k r) (Gs.h r))] := by
 refine FnO.o2 Tryz.func96 rfl fun _ _ _ _ _ _ => ?_
 unfold Z42 at h
 refine Wc.s0 [0, 2, 4] [4, 1000000] ?_
 obtain ⟨zd, h54, h⟩ := oc h fun _ => Z4v
 refine Wc.s2 [{}, {}, hC h54] [0, 2, 6, 7] [6, 1000000] (o1 h54) ?_
 apply Wc.seq
 refine Wc.s0 [0, 2, 6, 17] [6, 1000000] ?_
 refine Wc.ci h (fun _ h => ?_) (fun _ h => ?_)
 ·refine Wc.fk [] [] [1000000] [] ?_
  refine Wc.ret ?_
  cases h; exact ⟨(by first | exact .inl rfl | exact .inr rfl), by kernel_rfl, by kernel_rfl⟩
 refine Wc.ks [0, 2, 6] [6, 1000000] ?_
 obtain ⟨u2q, h57, h⟩ := oc h fun _ => Zsn
 obtain ⟨u93, h58, h⟩ := oc h fun _ => Zr5
 refine Wc.s2 [{}, hC h57, hC h58, hK [21], hK [18], {}, {}, hK [22]] [0, 2, 7, 8] [8, 1000000] (o2 h57 h58) ?_
 apply Wc.seq
 refine Wc.s0 [0, 2, 8, 25] [8, 1000000] ?_
 refine Wc.ci h (fun _ h => ?_) (fun _ h => ?_)
 ·obtain ⟨u6e, h62, h⟩ := oc h fun _ => Z1a
  refine Wc.s2 [{}, {}, hC h62] [] [1000000] (o1 h62) ?_
  refine Wc.ret ?_
  cases h; exact ⟨(by first | exact .inl rfl | exact .inr rfl), by kernel_rfl, by kernel_rfl⟩
 refine Wc.ks [0, 8] [8, 1000000] ?_
 apply Wc.seq
 obtain ⟨u5m, h64, h⟩ := oc h fun _ => Ztt
 refine Wc.every hmix [{}, {}, {}, {}, {}, hC h64, hK [35], hK [29], {}, {}, hK [36]] [] [0, 7, 9] [9, 1000000] [] ⟨[tP 0 1000000, tB 7 u5m.2, tP 9 9], [(9, .cells [.slx, .slx] [(0, .ex 63 true (List.map Gc.c u5m.1.gq)), (1, .ex 9 true (List.map cS u5m.1.gy))]), (1000000, .cells (Gs.k zd.1) (Gs.h zd.1))], []⟩ _ 145 (by kernel_rfl) (.cons .nil (.cons .nil (.cons .nil (.cons .nil (.cons .nil (.cons (oC h64 AllP.nil) (.cons .nil (.cons .nil (.cons .nil (.cons .nil (.cons .nil (.cons .nil .nil)))))))))))) ?_
 apply Wc.seq
 refine Wc.s0 [0, 9, 39] [9, 1000000] ?_
 refine Wc.ci h (fun _ h => ?_) (fun _ h => ?_)
 ·obtain ⟨u4v, h67, h⟩ := oc h fun _ => Z2a
  refine Wc.s2 [{}, hC h67] [] [1000000] (o1 h67) ?_
  refine Wc.ret ?_
  cases h; exact ⟨(by first | exact .inl rfl | exact .inr rfl), by kernel_rfl, by kernel_rfl⟩
 refine Wc.ks [0, 9] [9, 1000000] ?_
 refine Wc.k3 [{}, hM 1, {}, {}, hK [43]] [.sh (.b 1000000 0), .sh (.b 1000000 1)] [] [1000000] [] .nil ?_
 cases h; exact ⟨(by first | exact .inl rfl | exact .inr rfl), by kernel_rfl, by kernel_rfl⟩
end Go.Proofs.YtjaaacbiaimdlaaGreatDoor

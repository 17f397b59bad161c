/- What the functions do, part 3. -/
import Derived.Test.YtjaaacbiaimdlaaGreatDoorFnb
set_option linter.unusedVariables false
set_option linter.unusedSimpArgs false
namespace Go.Proofs.YtjaaacbiaimdlaaGreatDoor
open Go.RowKit Go.Bv
def Zv (k : Nat) (u5 : Gs) (u26 : (List Gt) × Gt) (zw : Gt) : Nat → Int → Gs → Option (Out (Gs × Bool) Gs)
 | 0, _, _ => none
 | m + 1, u18, u1 =>
  if (decide (u18 < (u5.gDb.gq.length : Int))) = true then
   (at' u5.gDb.gq u18).bind fun u3r =>
   (Z5l k u3r.gA).bind fun u25 =>
   (Z5l k u26.2).bind fun u56 =>
   if (!(sEq u25 u56)) = true then
    Zv k u5 u26 zw m (wr.i64 (u18 + 1)) u1
   else
    (Z2v k [u3r.gA, u3r.gD]).bind fun ua5 =>
    (Z20 k u1 (wr.i64 (u1.gk + ua5))).bind fun u4e =>
    (Z7e k u3r).bind fun ua6 =>
    (Z80 k ua6 u1.gk).bind fun ua7 =>
    (Z10 k u4e.1 ua7 zw).bind fun u12 =>
    if (!u12.2) = true then
     (Z20 k u12.1 u1.gk).bind fun ua8 =>
     Zv k u5 u26 zw m (wr.i64 (u18 + 1)) ua8.1
    else
     if (!u4e.2) = true then
      (Z1g k u12.1 1).bind fun ua9 =>
      some (.ret (ua9, true))
     else
      (Z3s k u12.1.gDb.gq).bind fun uaa =>
      (Z1x k uaa u18 (wr.i64 (u18 + 1))).bind fun uab =>
      some (.ret (Gs.mk (Gd.mk uab u12.1.gDb.gy) u12.1.gU u12.1.gk u12.1.gl u12.1.gw u12.1.gh u12.1.gc u12.1.gf u12.1.gv, true))
  else
   some (.done u1)
def Z1w (k : Nat) (z9 : (List Gt) × Gt) (u5 : Gs) (zt : ByteArray) (zw : Gt) : Option (Gs × Bool) :=
 (at' zw.ga 0).bind fun u2w =>
 (Z1y k z9.1 u2w).bind fun u26 =>
 if (u26.2.gi == 1) = true then
  (Z9 k (Gs.mk u5.gDb (Gu.mk u26.1 u5.gU.gd u5.gU.gu) u5.gk u5.gl u5.gw u5.gh u5.gc u5.gf u5.gv) 1 zt).bind fun u4v =>
  some (u4v, true)
 else
  (Z5l k u26.2).bind fun u35 =>
  if (sEq u35 (bs [])) = true then
   (Z9 k (Gs.mk u5.gDb (Gu.mk u26.1 u5.gU.gd u5.gU.gu) u5.gk u5.gl u5.gw u5.gh u5.gc u5.gf u5.gv) 2 zt).bind fun u6n =>
   some (u6n, true)
  else
   (Zv k u5 u26 zw k 0 (Gs.mk u5.gDb (Gu.mk u26.1 u5.gU.gd u5.gU.gu) u5.gk u5.gl u5.gw u5.gh u5.gc u5.gf u5.gv)).bind fun out2 => match out2 with
   | .ret r => some r
   | .done uq =>
    some (uq, false)
def Z2o (k : Nat) (u5 : Gs) (vw : Gt) (zt : ByteArray) : Option (Gs × Bool) :=
 (Z1y k u5.gU.ge vw).bind fun z9 =>
 (Z3r k z9.2 (bs [58, 45]) 2).bind fun uac =>
 if (!uac) = true then
  (Z92 k (bs [116, 114, 117, 101])).bind fun u51 =>
  (Z3b k (bs [58, 45]) [z9.2, u51]).bind fun u6o =>
  Z1w k z9 u5 zt u6o
 else
  Z1w k z9 u5 zt z9.2
set_option maxHeartbeats 4000000 in
theorem Zh1 {k : Nat} {u5 : Gs} {vw : Gt} {zt : ByteArray} {r : Gs × Bool} (h : Z2o k u5 vw zt = some r) : FnO Tryz.prog 97 [.p (Gs.k u5) (Gs.h u5), .v (.agg (Gt.q vw)) [], .v (.str zt) []] (.v (.bool r.2) []) [(0, .p (Gs.k r.1) (Gs.h r.1))] := by
 refine FnO.o2 Tryz.func97 rfl fun _ _ _ _ _ _ => ?_
 unfold Z2o at h
 refine Wc.s0 [0, 2, 4] [4, 1000000] ?_
 apply Wc.seq
 obtain ⟨z9, h57, h⟩ := oc h fun _ => Z5i
 refine Wc.meet hmix [{}, {}, {}, {}, {}, {}, { hC h57 with io := [0] }] [] [] [0, 2, 4, 12, 13, 14, 15, 16, 17, 18] [4, 1000000] [] [] [0, 2, 4] [4, 1000000] [] ⟨[tP 0 1000000, tS 2 zt, tP 4 4], [bC 4 (Gt.q z9.2), (1000000, .cells (Gs.k u5) [(2, .ex 31 false (List.map Gt.c z9.1)), (3, .ex 3 false (List.map cI.i64 u5.gU.gd)), (9, .ex 78 false (List.map Gp.c u5.gc)), (10, .ex 31 false (List.map Gt.c u5.gf.gp))])], []⟩ _ [0, 1, 32, 3, 33, 7, 35, 15, 39, 31, 47, 63, 127, 255] (by kernel_rfl) (by kernel_rfl) (by as_aux_lemma => kernel_rfl) (by kernel_rfl) (by kernel_rfl) (.cons .nil (.cons .nil (.cons .nil (.cons .nil (.cons .nil (.cons .nil (.cons (oC h57 AllP.nil) (.cons .nil .nil)))))))) ?_
 refine Wc.seqJ (fun st => ∃ (zw : Gt), st = ⟨[tP 0 1000000, tS 2 zt, tP 4 4], [bC 4 (Gt.q zw), (1000000, .cells (Gs.k u5) [(2, .ex 31 false (List.map Gt.c z9.1)), (3, .ex 3 false (List.map cI.i64 u5.gU.gd)), (9, .ex 78 false (List.map Gp.c u5.gc)), (10, .ex 31 false (List.map Gt.c u5.gf.gp))])], []⟩ ∧ Z1w k z9 u5 zt zw = some r) ?_ ?_
 ·obtain ⟨uac, h101, h⟩ := oc h fun _ => Zak
  refine Wc.s2 [{}, hC h101] [0, 2, 4, 21] [4, 1000000] (o1 h101) ?_
  refine Wc.ci h (fun _ h => ?_) (fun _ h => ?_)
  ·obtain ⟨u51, h104, h⟩ := oc h fun _ => Zcn
   have h105 := (Z1l (c := Gt.c) (x := z9.2) (Gt.c_eq z9.2) (Z1l (c := Gt.c) (x := u51) (Gt.c_eq u51) (Z2s Gt.c)))
   obtain ⟨u6o, h106, h⟩ := oc h fun _ => Z68
   refine Wc.dk hmix [{}, hC h104, hB h105, hC h106] [] [0, 2, 4] [4, 1000000] [] (o3 h104 h105 h106) ?_
   exact ⟨_, stB h⟩
  refine Wc.ks [0, 2, 4] [4, 1000000] ?_
  exact ⟨_, stB h⟩
 rintro st ⟨zw, rfl, h⟩
 apply Wc.seq
 obtain ⟨u2w, h59, h⟩ := oc h fun u2w h59 => (Z11 (c := Gt.c) (Gt.c_eq u2w) Gt.c_len h59)
 obtain ⟨u26, h60, h⟩ := oc h fun _ => Z5i
 refine Wc.meet hmix [{}, {}, {}, {}, {}, {}, {}, hE h59, {}, { hC h60 with io := [0] }] [] [] [0, 2, 4, 26, 27, 28, 29, 30, 31, 32, 33, 34, 35, 7] [4, 1000000, 7] [] [] [0, 2, 4, 7] [4, 7, 1000000] [] ⟨[tP 0 1000000, tS 2 zt, tP 4 4, tP 7 7], [bC 4 (Gt.q zw), bC 7 (Gt.q u26.2), (1000000, .cells (Gs.k u5) [(2, .ex 31 false (List.map Gt.c u26.1)), (3, .ex 3 false (List.map cI.i64 u5.gU.gd)), (9, .ex 78 false (List.map Gp.c u5.gc)), (10, .ex 31 false (List.map Gt.c u5.gf.gp))])], []⟩ _ [0, 1, 32, 1024, 3, 33, 1025, 96, 1056, 7, 35, 1027, 97, 1057, 224, 1120, 15, 39, 1031, 99, 1059, 225, 1121, 480, 1248, 31, 47, 1039, 103, 1063, 227, 1123, 481, 1249, 1504, 63, 1055, 111, 1071, 231, 1127, 483, 1251, 1505, 127, 1087, 239, 1135, 487, 1255, 1507, 255, 1151, 495, 1263, 1511, 511, 1279, 1519, 1023, 1535, 2047, 4095] (by kernel_rfl) (by kernel_rfl) (by as_aux_lemma => kernel_rfl) (by kernel_rfl) (by kernel_rfl) (.cons .nil (.cons .nil (.cons .nil (.cons .nil (.cons .nil (.cons .nil (.cons .nil (.cons (oC h59 AllP.nil) (.cons (oC (lenE h59 4) AllP.nil) (.cons (oC h60 AllP.nil) (.cons .nil (.cons .nil .nil)))))))))))) ?_
 apply Wc.seq
 apply Wc.block
 refine Wc.s0 [0, 2, 4, 7, 36] [4, 7, 1000000] ?_
 refine Wc.ci h (fun _ h => ?_) (fun _ h => ?_)
 ·obtain ⟨u4v, h64, h⟩ := oc h fun _ => Z1a
  refine Wc.s2 [{}, {}, hC h64] [] [1000000] (o1 h64) ?_
  refine Wc.s0 [6] [1000000] ?_
  cases h; exact Wc.ret dn
 obtain ⟨u35, h66, h⟩ := oc h fun _ => Z90
 refine Wc.s2 [{}, hC h66] [0, 2, 4, 7, 43] [4, 7, 1000000] (o1 h66) ?_
 refine Wc.ci h (fun _ h => ?_) (fun _ h => ?_)
 ·obtain ⟨u6n, h69, h⟩ := oc h fun _ => Z1a
  refine Wc.s2 [{}, {}, hC h69] [] [1000000] (o1 h69) ?_
  refine Wc.s0 [6] [1000000] ?_
  cases h; exact Wc.ret dn
 refine Wc.ks [0, 4, 7] [4, 7, 1000000] ?_
 apply Wc.seq
 refine Wc.s2 [{}, {}, {}, {}, {}, hL u5.gDb.gq] [0, 4, 7, 54, 55, 56] [4, 7, 1000000] (o1 (Z2 Gc.c u5.gDb.gq)) ?_
 obtain ⟨out2, h71, h⟩ := Z2d h
 refine Wc.lastJ (fun st => ∃ (uq : Gs), out2 = .done uq ∧ st = ⟨[], [(1000000, .cells (Gs.k uq) (Gs.h uq))], []⟩) ?_ ?_
 ·apply Wc.block
  refine Wc.loop (fun m st => ∃ (u18 : Int) (u1 : Gs), st = ⟨[tP 0 1000000, tP 4 4, tP 7 7, tV 54 (.sl (List.map Gc.c u5.gDb.gq)), tI 55 (u5.gDb.gq.length : Int), tI 56 u18], [bC 4 (Gt.q zw), bC 7 (Gt.q u26.2), (1000000, .cells (Gs.k u1) (Gs.h u1))], []⟩ ∧ Zv k u5 u26 zw m u18 u1 = some out2) ?_ k ⟨_, _, stB h71⟩
  rintro m st ⟨u18, u1, rfl, h71⟩
  rcases m with _ | m
  ·exact (Zk h71).elim
  refine Wc.s0 [0, 4, 7, 54, 55, 56, 57] [4, 7, 1000000] ?_
  apply Wc.seq
  refine Wc.ci h71 (fun _ h71 => ?_) (fun _ h71 => ?_)
  ·refine Wc.ks [0, 4, 7, 54, 55, 56] [4, 7, 1000000] ?_
   apply Wc.seq
   apply Wc.block
   obtain ⟨u3r, h73, h71⟩ := oc h71 fun u3r h73 => (Z11 (c := Gc.c) (Gc.c_eq u3r) Gc.c_len h73)
   refine Wc.s2 [{}, hE h73] [0, 4, 7, 8, 9, 54, 55, 56] [4, 7, 9, 1000000] (o2 h73 (lenE h73 9)) ?_
   apply Wc.seq
   apply Wc.seq
   obtain ⟨u25, h75, h71⟩ := oc h71 fun _ => Z90
   obtain ⟨u56, h76, h71⟩ := oc h71 fun _ => Z90
   refine Wc.dk hmix [{}, {}, hC h75, {}, hC h76] [] [0, 4, 7, 8, 9, 54, 55, 56, 66] [4, 7, 9, 1000000] [] (o2 h75 h76) ?_
   refine Wc.ci h71 (fun _ h71 => ?_) (fun _ h71 => ?_)
   ·refine Wc.ke [0, 4, 7, 54, 55, 56] [4, 7, 1000000] ?_
    refine Wc.k0 [0, 4, 7, 54, 55, 56] [4, 7, 1000000] ?_
    exact ⟨_, Nat.lt_succ_self _, _, _, stB h71⟩
   refine Wc.ks [0, 4, 7, 8, 9, 54, 55, 56] [4, 7, 9, 1000000] ?_
   refine Wc.s0 [0, 4, 7, 8, 9, 10, 54, 55, 56] [4, 7, 9, 1000000] ?_
   have h80 := (Z1l (c := Gt.c) (x := u3r.gA) (Gt.c_eq u3r.gA) (Z1l (c := Gt.c) (x := u3r.gD) (Gt.c_eq u3r.gD) (Z2s Gt.c)))
   obtain ⟨ua5, h81, h71⟩ := oc h71 fun _ => Zez
   obtain ⟨u4e, h82, h71⟩ := oc h71 fun _ => Z6g
   refine Wc.s2 [{}, {}, {}, {}, {}, {}, hB h80, hC h81, {}, hC h82] [0, 4, 7, 8, 9, 10, 11, 54, 55, 56] [4, 7, 9, 1000000] (o3 h80 h81 h82) ?_
   apply Wc.seq
   apply Wc.seq
   obtain ⟨ua6, h85, h71⟩ := oc h71 fun _ => Znl
   obtain ⟨ua7, h86, h71⟩ := oc h71 fun _ => Zh3
   obtain ⟨u12, h87, h71⟩ := oc h71 fun _ => Z56
   refine Wc.dk hmix [{}, {}, hC h85, {}, hC h86, {}, hC h87] [] [0, 4, 7, 8, 10, 11, 54, 55, 56, 88] [4, 7, 1000000] [] (o3 h85 h86 h87) ?_
   refine Wc.ci h71 (fun _ h71 => ?_) (fun _ h71 => ?_)
   ·obtain ⟨ua8, h92, h71⟩ := oc h71 fun _ => Z6g
    refine Wc.s2 [{}, {}, hC h92] [0, 4, 7, 54, 55, 56] [4, 7, 1000000] (o1 h92) ?_
    refine Wc.exit ?_
    refine Wc.k0 [0, 4, 7, 54, 55, 56] [4, 7, 1000000] ?_
    exact ⟨_, Nat.lt_succ_self _, _, _, stB h71⟩
   refine Wc.ks [0, 8, 11] [1000000] ?_
   apply Wc.seq
   refine Wc.s0 [0, 8, 93] [1000000] ?_
   refine Wc.ci h71 (fun _ h71 => ?_) (fun _ h71 => ?_)
   ·obtain ⟨ua9, h95, h71⟩ := oc h71 fun _ => Z2a
    refine Wc.s2 [{}, hC h95] [] [1000000] (o1 h95) ?_
    refine Wc.s0 [6] [1000000] ?_
    cases h71; cases h; exact Wc.ret dn
   refine Wc.ks [0, 8] [1000000] ?_
   obtain ⟨uaa, h97, h71⟩ := oc h71 fun _ => Zcw
   obtain ⟨uab, h98, h71⟩ := oc h71 fun _ => Z5w
   refine Wc.s3 [{}, {}, {}, {}, {}, {}, hC h97, {}, {}, {}, { hC h98 with tk := [102], fx := [.ag (.t 102 0)] }, {}, {}, {}, hK [106]] [.so 1000000] [] [1000000] [] (o2 h97 h98) ?_
   refine Wc.s0 [6] [1000000] ?_
   refine Wc.fk [.sh (.b 1000000 0)] [6] [1000000] [] ?_
   cases h71; cases h; exact Wc.ret dn
  refine Wc.ke [] [1000000] ?_
  cases h71; exact ⟨_, rfl, by kernel_rfl⟩
 rintro st ⟨uq, rfl, rfl⟩
 refine Wc.s0 [6] [1000000] ?_
 cases h; exact Wc.ret dn

def Ze1 (k : Nat) (u8a : Gc) (zp : ByteArray) : Option Bool :=
 (Z5l k u8a.gA).bind fun zs =>
 some (sEq zs zp)
theorem Zts {k : Nat} {u8a : Gc} {zp : ByteArray} {r : Bool} (h : Ze1 k u8a zp = some r) : FnO Tryz.prog 129 [.v (.agg (Gc.q u8a)) [], .v (.vptr [.str zp]) []] (.v (.bool r) []) [] := by
 refine FnO.o2 Tryz.func129 rfl fun _ _ _ _ _ _ => ?_
 unfold Ze1 at h
 refine Wc.s0 [1, 2] [2] ?_
 apply Wc.seq
 obtain ⟨zs, h5, h⟩ := oc h fun _ => Z90
 refine Wc.dk hmix [{}, {}, hC h5] [] [3] [] [] (o2 h5 (Zhi 1 [.str zp])) ?_
 cases h; exact Wc.ret dn

def Za (k : Nat) (u2t : List Gc) (vj : ByteArray) : Nat → Int → Option (Out Int Unit)
 | 0, _ => none
 | m + 1, vg =>
  if (decide (vg < (u2t.length : Int))) = true then
   (at' u2t vg).bind fun u8b =>
   (Ze1 k u8b vj).bind fun u0m =>
   if u0m = true then
    some (.ret vg)
   else
    Za k u2t vj m (wr.i64 (vg + 1))
  else
   some (.done ())
def Zo (k : Nat) (u2t : List Gc) (vj : ByteArray) : Option Int :=
 (Za k u2t vj k 0).bind fun out1 => match out1 with
 | .ret r => some r
 | .done () =>
  some (-1)
theorem Z39 {k : Nat} {u2t : List Gc} {vj : ByteArray} {r : Int} (h : Zo k u2t vj = some r) : FnO Tryz.prog 146 [.v (.sl (List.map Gc.c u2t)) [], .v (.func 129 [.vptr [.str vj]]) []] (.v (aI r) []) [] := by
 refine FnO.o2 Tryz.func146 rfl fun _ _ _ _ _ _ => ?_
 unfold Zo at h
 refine Wc.s0 [0, 1] [] ?_
 apply Wc.seq
 refine Wc.s2 [{}, hL u2t] [0, 1, 7, 8] [] (o1 (Z2 Gc.c u2t)) ?_
 obtain ⟨out1, h3, h⟩ := Z2d h
 refine Wc.lastJ (fun st => out1 = .done () ∧ st = ⟨[], [], []⟩) ?_ ?_
 ·apply Wc.block
  refine Wc.loop (fun m st => ∃ (vg : Int), st = ⟨[tV 0 (.sl (List.map Gc.c u2t)), tV 1 (.func 129 [.vptr [.str vj]]), tI 7 (u2t.length : Int), tI 8 vg], [], []⟩ ∧ Za k u2t vj m vg = some out1) ?_ k ⟨_, stB h3⟩
  rintro m st ⟨vg, rfl, h3⟩
  rcases m with _ | m
  ·exact (Zk h3).elim
  refine Wc.s0 [0, 1, 7, 8, 9] [] ?_
  apply Wc.seq
  refine Wc.ci h3 (fun _ h3 => ?_) (fun _ h3 => ?_)
  ·refine Wc.ks [0, 1, 7, 8] [] ?_
   apply Wc.seq
   apply Wc.block
   refine Wc.s0 [0, 1, 5, 7, 8] [] ?_
   obtain ⟨u8b, h5, h3⟩ := oc h3 fun u8b h5 => (Z11 (c := Gc.c) (Gc.c_eq u8b) Gc.c_len h5)
   obtain ⟨u0m, h6, h3⟩ := oc h3 fun _ => Zts
   refine Wc.s2 [{}, {}, {}, hE h5, {}, hC h6] [0, 1, 5, 7, 8, 16] [] (o3 h5 (lenE h5 9) h6) ?_
   refine Wc.ci h3 (fun _ h3 => ?_) (fun _ h3 => ?_)
   ·refine Wc.s0 [4] [] ?_
    cases h3; cases h; exact Wc.ret dn
   refine Wc.ks [0, 1, 7, 8] [] ?_
   refine Wc.k0 [0, 1, 7, 8] [] ?_
   exact ⟨_, Nat.lt_succ_self _, _, stB h3⟩
  refine Wc.ke [] [] ?_
  cases h3; exact ⟨rfl, by kernel_rfl⟩
 rintro st ⟨rfl, rfl⟩
 refine Wc.s0 [4] [] ?_
 cases h; exact Wc.ret dn

def Zj (k : Nat) (u8c : List Gc) (u8d : ByteArray) : Option Bool :=
 (Zo k u8c u8d).bind fun u0q =>
 some (decide (u0q ≥ 0))
theorem Z31 {k : Nat} {u8c : List Gc} {u8d : ByteArray} {r : Bool} (h : Zj k u8c u8d = some r) : FnO Tryz.prog 128 [.v (.sl (List.map Gc.c u8c)) [], .v (.func 129 [.vptr [.str u8d]]) []] (.v (.bool r) []) [] := by
 refine FnO.o2 Tryz.func128 rfl fun _ _ _ _ _ _ => ?_
 unfold Zj at h
 refine Wc.s0 [0, 1] [] ?_
 obtain ⟨u0q, h3, h⟩ := oc h fun _ => Z39
 refine Wc.s2 [{}, {}, hC h3] [4] [] (o1 h3) ?_
 cases h; exact Wc.ret dn

def Z54 (k : Nat) (u2j : Gd) (ug : ByteArray) : Nat → (List Gc) → Int → Option (Out (List Gc) (List Gc))
 | 0, _, _ => none
 | m + 1, u4g, uy =>
  if (decide (uy < (u2j.gq.length : Int))) = true then
   (at' u2j.gq uy).bind fun u11 =>
   (Z5l k u11.gA).bind fun uj =>
   if (sEq uj ug) = true then
    (Z6d k u11).bind fun u39 =>
    if u4g.length + [u39].length ≤ 1073741824 then
     Z54 k u2j ug m (u4g ++ [u39]) (wr.i64 (uy + 1))
    else none
   else
    Z54 k u2j ug m u4g (wr.i64 (uy + 1))
  else
   some (.done u4g)
def Z8q (k : Nat) (u2j : Gd) (ug : ByteArray) : Option (List Gc) :=
 (Z54 k u2j ug k [] 0).bind fun out1 => match out1 with
 | .ret r => some r
 | .done u28 =>
  some u28
theorem Zph {k : Nat} {u2j : Gd} {ug : ByteArray} {r : (List Gc)} (h : Z8q k u2j ug = some r) : FnO Tryz.prog 98 [.v (.agg (Gd.q u2j)) [], .v (.str ug) []] (.v (.sl (List.map Gc.c r)) [(0, .app 63)]) [] := by
 refine FnO.o2 Tryz.func98 rfl fun _ _ _ _ _ _ => ?_
 unfold Z8q at h
 refine Wc.s0 [1, 2] [2] ?_
 refine Wc.s0 [1, 2, 5] [2] ?_
 apply Wc.seq
 refine Wc.s2 [{}, {}, hL u2j.gq] [1, 5, 9, 10, 11] [] (o1 (Z2 Gc.c u2j.gq)) ?_
 obtain ⟨out1, h13, h⟩ := Z2d h
 refine Wc.lastJ (fun st => ∃ (u28 : List Gc), out1 = .done u28 ∧ st = ⟨[(5, (.v (.sl (List.map Gc.c u28)), [(0, .app 63)]))], [], []⟩) ?_ ?_
 ·apply Wc.block
  refine Wc.loop (fun m st => ∃ (u4g : List Gc) (uy : Int), st = ⟨[tS 1 ug, (5, (.v (.sl (List.map Gc.c u4g)), [(0, .app 63)])), tV 9 (.sl (List.map Gc.c u2j.gq)), tI 10 (u2j.gq.length : Int), tI 11 uy], [], []⟩ ∧ Z54 k u2j ug m u4g uy = some out1) ?_ k ⟨_, _, stB h13⟩
  rintro m st ⟨u4g, uy, rfl, h13⟩
  rcases m with _ | m
  ·exact (Zk h13).elim
  refine Wc.s0 [1, 5, 9, 10, 11, 12] [] ?_
  apply Wc.seq
  refine Wc.ci h13 (fun _ h13 => ?_) (fun _ h13 => ?_)
  ·refine Wc.ks [1, 5, 9, 10, 11] [] ?_
   apply Wc.seq
   apply Wc.block
   obtain ⟨u11, h15, h13⟩ := oc h13 fun u11 h15 => (Z11 (c := Gc.c) (Gc.c_eq u11) Gc.c_len h15)
   refine Wc.s2 [hE h15] [1, 5, 7, 9, 10, 11] [7] (o2 h15 (lenE h15 9)) ?_
   obtain ⟨uj, h17, h13⟩ := oc h13 fun _ => Z90
   refine Wc.s2 [{}, {}, hC h17] [1, 5, 7, 9, 10, 11, 19] [7] (o1 h17) ?_
   refine Wc.ci h13 (fun _ h13 => ?_) (fun _ h13 => ?_)
   ·obtain ⟨u39, h20, h13⟩ := oc h13 fun _ => Zga
    have h21 := (Z1l (c := Gc.c) (x := u39) (Gc.c_eq u39) (Z2s Gc.c))
    obtain ⟨h22, h13⟩ := Z4 h13
    have h23 := (Z30 Gc.c u4g [u39])
    refine Wc.k2 [hK [5], {}, hC h20, hB h21, { hB h23 with tk := [20] }, hK [24]] [1, 5, 9, 10, 11] [] (oC h20 (oC h21 (oA h23 Gc.c_leaf Gc.c_len h22 AllP.nil))) ?_
    refine Wc.k0 [1, 5, 9, 10, 11] [] ?_
    exact ⟨_, Nat.lt_succ_self _, _, _, stB h13⟩
   refine Wc.ks [1, 5, 9, 10, 11] [] ?_
   refine Wc.k0 [1, 5, 9, 10, 11] [] ?_
   exact ⟨_, Nat.lt_succ_self _, _, _, stB h13⟩
  refine Wc.ke [5] [] ?_
  cases h13; exact ⟨_, rfl, by kernel_rfl⟩
 rintro st ⟨u28, rfl, rfl⟩
 refine Wc.s1 [hK [5], hK [26]] [4] [] ?_
 cases h; exact Wc.ret dn

def Zfq (k : Nat) (vm : Gd) (u03 : ByteArray) : Option Bool :=
 (Zy k vm.gy u03).bind fun u66 =>
 if u66 = true then
  some true
 else
  (Zj k vm.gq u03).bind fun u2h =>
  some u2h
theorem Zyl {k : Nat} {vm : Gd} {u03 : ByteArray} {r : Bool} (h : Zfq k vm u03 = some r) : FnO Tryz.prog 99 [.v (.agg (Gd.q vm)) [], .v (.str u03) []] (.v (.bool r) []) [] := by
 refine FnO.o2 Tryz.func99 rfl fun _ _ _ _ _ _ => ?_
 unfold Zfq at h
 refine Wc.s0 [2, 3] [2, 3] ?_
 refine Wc.zk 3 ?_
 obtain ⟨u66, h4, h⟩ := oc h fun _ => Z4p
 rcases oif h with ⟨h5, h⟩ | ⟨h5, h⟩
 ·refine Wc.s2 [{}, {}, {}, hC h4, rT] [4] [] (o3 (Zhi 1 [.str u03]) h4 (cb h5)) ?_
  cases h; exact Wc.ret dn
 obtain ⟨u2h, h6, h⟩ := oc h fun _ => Z31
 refine Wc.s2 [{}, {}, {}, hC h4, rF, {}, {}, {}, hC h6] [4] [] (o4 (Zhi 1 [.str u03]) h4 (cb h5) h6) ?_
 cases h; exact Wc.ret dn

def Z28 (k : Nat) (u3 : Gs) (ub : Gt) (v5 : Gt) (uc : Int) : Option Gs :=
 (Z1y k u3.gU.ge ub).bind fun u4y =>
 (Z3r k u4y.2 (bs [45, 62]) 2).bind fun u0u =>
 if (!u0u) = true then
  (Z1e k (Gs.mk u3.gDb (Gu.mk u4y.1 u3.gU.gd u3.gU.gu) u3.gk u3.gl u3.gw u3.gh u3.gc u3.gf u3.gv) (Gf.mk 1 v5 uc Ga.nil u3.gh)).bind fun uad =>
  (Z1q k uad.1 ub uc).bind fun vr =>
  some vr
 else
  (Z1e k (Gs.mk u3.gDb (Gu.mk u4y.1 u3.gU.gd u3.gU.gu) u3.gk u3.gl u3.gw u3.gh u3.gc u3.gf u3.gv) (Gf.mk 1 v5 uc Ga.nil u3.gh)).bind fun u57 =>
  (at' u4y.2.ga 1).bind fun un =>
  (Z1q k u57.1 un uc).bind fun z8 =>
  (at' u4y.2.ga 0).bind fun ve =>
  (Z1q k (Gs.mk z8.gDb z8.gU z8.gk z8.gl z8.gw (Gf.mk 2 (Gt.mk 0 (bs []) 0 []) u57.2.gAt Ga.nil z8.gh) z8.gc z8.gf z8.gv) ve (z8.gc.length : Int)).bind fun u5 =>
  some u5
theorem Z97 {k : Nat} {u3 : Gs} {ub : Gt} {v5 : Gt} {uc : Int} {r : Gs} (h : Z28 k u3 ub v5 uc = some r) : FnO Tryz.prog 59 [.p (Gs.k u3) (Gs.h u3), .v (.agg (Gt.q ub)) [], .v (.agg (Gt.q v5)) [], .v (aI uc) []] (.v (.tup []) []) [(0, .p (Gs.k r) (Gs.h r))] := by
 refine FnO.o2 Tryz.func59 rfl fun _ _ _ _ _ _ => ?_
 unfold Z28 at h
 refine Wc.s0 [0, 3, 5, 6] [5, 6, 1000000] ?_
 refine Wc.s0 [0, 3, 5, 6, 8] [5, 6, 1000000] ?_
 apply Wc.seq
 obtain ⟨u4y, h27, h⟩ := oc h fun _ => Z5i
 refine Wc.meet hmix [{}, {}, {}, {}, {}, {}, { hC h27 with io := [0] }] [] [] [0, 3, 5, 6, 8, 15, 16, 17, 18, 19, 20, 21, 9] [5, 6, 1000000, 9] [] [] [0, 3, 5, 6, 8, 9] [5, 6, 9, 1000000] [] ⟨[tP 0 1000000, tI 3 uc, tP 5 5, tP 6 6, tV 8 (Gf.v u3.gh), tP 9 9], [bC 5 (Gt.q ub), bC 6 (Gt.q v5), bC 9 (Gt.q u4y.2), (1000000, .cells (Gs.k u3) [(2, .ex 31 false (List.map Gt.c u4y.1)), (3, .ex 3 false (List.map cI.i64 u3.gU.gd)), (9, .ex 78 false (List.map Gp.c u3.gc)), (10, .ex 31 false (List.map Gt.c u3.gf.gp))])], []⟩ _ [0, 1, 32, 128, 3, 33, 129, 160, 7, 35, 131, 161, 15, 39, 135, 163, 31, 47, 143, 167, 63, 159, 175, 127, 191, 255, 511] (by kernel_rfl) (by kernel_rfl) (by as_aux_lemma => kernel_rfl) (by kernel_rfl) (by kernel_rfl) (.cons .nil (.cons .nil (.cons .nil (.cons .nil (.cons .nil (.cons .nil (.cons (oC h27 AllP.nil) (.cons .nil (.cons .nil .nil))))))))) ?_
 apply Wc.seq
 obtain ⟨u0u, h29, h⟩ := oc h fun _ => Zak
 refine Wc.s2 [{}, hC h29] [0, 3, 5, 6, 8, 9, 24] [5, 6, 9, 1000000] (o1 h29) ?_
 refine Wc.ci h (fun _ h => ?_) (fun _ h => ?_)
 ·obtain ⟨uad, h32, h⟩ := oc h fun _ => Z7w
  refine Wc.s2 [{}, {}, {}, {}, { op := [28] }, hM 3, hC h32] [0, 3, 5] [5, 1000000] (o2 (Gf.v_leaf u3.gh) h32) ?_
  obtain ⟨vr, h34, h⟩ := oc h fun _ => Z2l
  refine Wc.s2 [{}, {}, {}, hC h34] [] [1000000] (o1 h34) ?_
  refine Wc.ret ?_
  cases h; exact ⟨(by first | exact .inl rfl | exact .inr rfl), by kernel_rfl, by kernel_rfl⟩
 refine Wc.ks [0, 3, 6, 8, 9] [6, 9, 1000000] ?_
 obtain ⟨u57, h36, h⟩ := oc h fun _ => Z7w
 refine Wc.s2 [{}, {}, {}, {}, { op := [39] }, hM 3, hC h36] [0, 3, 9, 10] [9, 42, 1000000] (o2 (Gf.v_leaf u3.gh) h36) ?_
 obtain ⟨un, h38, h⟩ := oc h fun un h38 => (Z11 (c := Gt.c) (Gt.c_eq un) Gt.c_len h38)
 obtain ⟨z8, h39, h⟩ := oc h fun _ => Z2l
 refine Wc.s2 [{}, {}, {}, hE h38, {}, {}, hC h39] [0, 9, 10] [9, 42, 1000000] (o3 h38 (lenE h38 4) h39) ?_
 apply Wc.seq
 refine Wc.zk 42 ?_
 refine Wc.dk hmix [{}, {}, {}, {}, {}, {}, {}, {}, {}, { op := [58] }, hM 3] [] [0, 9] [9, 1000000] [] (o2 (Zhi 1 [aI u57.2.gAt, aI u57.2.gL, aI u57.2.gk, Gf.v u57.2.gh, aI 0, .str (bs []), aI 0, .sl (List.map Gt.c []), .nil false, aI 0, .str (bs []), aI 0, .sl (List.map Gt.c []), aI 0, .str (bs []), aI 0, .sl (List.map Gt.c []), aI 0, Gf.v Gf.nil]) (Gf.v_leaf z8.gh)) ?_
 obtain ⟨ve, h42, h⟩ := oc h fun ve h42 => (Z11 (c := Gt.c) (Gt.c_eq ve) Gt.c_len h42)
 obtain ⟨u5, h43, h⟩ := oc h fun _ => Z2l
 refine Wc.dk hmix [{}, {}, {}, hE h42, {}, {}, {}, {}, {}, { hL z8.gc with dr := [71] }, hC h43] [] [] [1000000] [] (o4 h42 (lenE h42 4) (Z2 Gp.c z8.gc) h43) ?_
 cases h; exact ⟨(by first | exact .inl rfl | exact .inr rfl), by kernel_rfl, by kernel_rfl⟩

def Z2q (k : Nat) (u6 : Gs) (z9 : (List Gt) × Gt) (u0p : ByteArray) (vu : Gt) (u3f : Bool) : Option Gs :=
 if u3f = true then
  (Z9 k (Gs.mk u6.gDb (Gu.mk z9.1 u6.gU.gd u6.gU.gu) u6.gk u6.gl u6.gw u6.gh u6.gc u6.gf u6.gv) 2 u0p).bind fun uae =>
  some uae
 else
  (Z3b k z9.2.gn (z9.2.ga ++ (sub3 vu.ga (1 : Int) (vu.ga.length : Int)))).bind fun u1t =>
  (Z1q k (Gs.mk u6.gDb (Gu.mk z9.1 u6.gU.gd u6.gU.gu) u6.gk u6.gl u6.gw u6.gh u6.gc u6.gf u6.gv) u1t (u6.gc.length : Int)).bind fun u6f =>
  some u6f
def Z3i (k : Nat) (u6 : Gs) (vu : Gt) (u0p : ByteArray) : Option Gs :=
 (at' vu.ga 0).bind fun zf =>
 (Z1y k u6.gU.ge zf).bind fun z9 =>
 if ([] : List Gt).length + z9.2.ga.length ≤ 1073741824 then
  if 0 ≤ (1 : Int) ∧ (1 : Int) ≤ (vu.ga.length : Int) ∧ (vu.ga.length : Int) ≤ (vu.ga.length : Int) then
   if z9.2.ga.length + (sub3 vu.ga (1 : Int) (vu.ga.length : Int)).length ≤ 1073741824 then
    if (z9.2.gi == 1) = true then
     (Z9 k (Gs.mk u6.gDb (Gu.mk z9.1 u6.gU.gd u6.gU.gu) u6.gk u6.gl u6.gw u6.gh u6.gc u6.gf u6.gv) 1 u0p).bind fun u6p =>
     some u6p
    else
     if (z9.2.gi == 3) = true then
      Z2q k u6 z9 u0p vu true
     else
      Z2q k u6 z9 u0p vu (decide (((z9.2.ga ++ (sub3 vu.ga (1 : Int) (vu.ga.length : Int))).length : Int) > 5))
   else none
  else none
 else none
theorem Zg8 {k : Nat} {u6 : Gs} {vu : Gt} {u0p : ByteArray} {r : Gs} (h : Z3i k u6 vu u0p = some r) : FnO Tryz.prog 62 [.p (Gs.k u6) (Gs.h u6), .v (.agg (Gt.q vu)) [], .v (.str u0p) []] (.v (.tup []) []) [(0, .p (Gs.k r) (Gs.h r))] := by
 refine FnO.o2 Tryz.func62 rfl fun _ _ _ _ _ _ => ?_
 unfold Z3i at h
 refine Wc.s0 [0, 2, 4] [4, 1000000] ?_
 apply Wc.seq
 obtain ⟨zf, h54, h⟩ := oc h fun zf h54 => (Z11 (c := Gt.c) (Gt.c_eq zf) Gt.c_len h54)
 obtain ⟨z9, h55, h⟩ := oc h fun _ => Z5i
 refine Wc.meet hmix [{}, {}, {}, {}, {}, {}, {}, hE h54, {}, { hC h55 with io := [0] }] [] [] [0, 2, 4, 8, 9, 10, 11, 12, 13, 14, 15, 16, 17, 6] [4, 1000000, 6] [] [] [0, 2, 4, 6] [4, 6, 1000000] [] ⟨[tP 0 1000000, tS 2 u0p, tP 4 4, tP 6 6], [bC 4 (Gt.q vu), bC 6 (Gt.q z9.2), (1000000, .cells (Gs.k u6) [(2, .ex 31 false (List.map Gt.c z9.1)), (3, .ex 3 false (List.map cI.i64 u6.gU.gd)), (9, .ex 78 false (List.map Gp.c u6.gc)), (10, .ex 31 false (List.map Gt.c u6.gf.gp))])], []⟩ _ [0, 1, 32, 1024, 3, 33, 1025, 96, 1056, 7, 35, 1027, 97, 1057, 224, 1120, 15, 39, 1031, 99, 1059, 225, 1121, 480, 1248, 31, 47, 1039, 103, 1063, 227, 1123, 481, 1249, 1504, 63, 1055, 111, 1071, 231, 1127, 483, 1251, 1505, 127, 1087, 239, 1135, 487, 1255, 1507, 255, 1151, 495, 1263, 1511, 511, 1279, 1519, 1023, 1535, 2047, 4095] (by kernel_rfl) (by kernel_rfl) (by as_aux_lemma => kernel_rfl) (by kernel_rfl) (by kernel_rfl) (.cons .nil (.cons .nil (.cons .nil (.cons .nil (.cons .nil (.cons .nil (.cons .nil (.cons (oC h54 AllP.nil) (.cons (oC (lenE h54 4) AllP.nil) (.cons (oC h55 AllP.nil) (.cons .nil (.cons .nil .nil)))))))))))) ?_
 apply Wc.seq
 obtain ⟨h58, h⟩ := Z4 h
 have h59 := (Zh9 Gt.c z9.2.ga)
 obtain ⟨h60, h⟩ := Z4 h
 obtain ⟨h61, h⟩ := Z4 h
 have h62 := (Z30 Gt.c z9.2.ga (sub3 vu.ga (1 : Int) (vu.ga.length : Int)))
 refine Wc.dk hmix [{}, {}, hB h59, {}, {}, { v := some (.sl (List.map Gt.c (sub3 vu.ga (1 : Int) (vu.ga.length : Int)))) }, { hB h62 with tk := [20] }, hK [24]] [] [0, 2, 6, 7] [6, 1000000] [] (oE h59 Gt.c_leaf Gt.c_len h58 (oC (Zro (c := Gt.c) Gt.c_len h60) (oA h62 Gt.c_leaf Gt.c_len h61 AllP.nil))) ?_
 apply Wc.block
 refine Wc.s0 [0, 2, 6, 7, 36] [6, 1000000] ?_
 refine Wc.ci h (fun _ h => ?_) (fun _ h => ?_)
 ·obtain ⟨u6p, h64, h⟩ := oc h fun _ => Z1a
  refine Wc.k2 [{}, {}, hC h64] [] [1000000] (o1 h64) ?_
  cases h; exact ⟨(by first | exact .inl rfl | exact .inr rfl), by kernel_rfl, by kernel_rfl⟩
 refine Wc.seqJ (fun st => ∃ (u3f : Bool), st = ⟨[tP 0 1000000, tS 2 u0p, tP 6 6, (7, (.v (.sl (List.map Gt.c (z9.2.ga ++ (sub3 vu.ga (1 : Int) (vu.ga.length : Int))))), [(0, .app 31)])), tB 43 u3f], [bC 6 (Gt.q z9.2), (1000000, .cells (Gs.k u6) [(2, .ex 31 false (List.map Gt.c z9.1)), (3, .ex 3 false (List.map cI.i64 u6.gU.gd)), (9, .ex 78 false (List.map Gp.c u6.gc)), (10, .ex 31 false (List.map Gt.c u6.gf.gp))])], []⟩ ∧ Z2q k u6 z9 u0p vu u3f = some r) ?_ ?_
 ·rcases oif h with ⟨h73, h⟩ | ⟨h73, h⟩
  ·refine Wc.k2 [{}, {}, {}, rT] [0, 2, 6, 7, 43] [6, 1000000] (o1 (cb h73)) ?_
   exact ⟨_, stB h⟩
  refine Wc.k2 [{}, {}, {}, rF, {}, hL (z9.2.ga ++ (sub3 vu.ga (1 : Int) (vu.ga.length : Int)))] [0, 2, 6, 7, 43] [6, 1000000] (o2 (cb h73) (Z2 Gt.c (z9.2.ga ++ (sub3 vu.ga (1 : Int) (vu.ga.length : Int))))) ?_
  exact ⟨_, stB h⟩
 rintro st ⟨u3f, rfl, h⟩
 refine Wc.ci h (fun _ h => ?_) (fun _ h => ?_)
 ·obtain ⟨uae, h67, h⟩ := oc h fun _ => Z1a
  refine Wc.k2 [{}, {}, hC h67] [] [1000000] (o1 h67) ?_
  cases h; exact ⟨(by first | exact .inl rfl | exact .inr rfl), by kernel_rfl, by kernel_rfl⟩
 obtain ⟨u1t, h69, h⟩ := oc h fun _ => Z68
 obtain ⟨u6f, h70, h⟩ := oc h fun _ => Z2l
 refine Wc.dk hmix [{}, {}, {}, hK [7], hC h69, {}, {}, {}, {}, { hL u6.gc with dr := [33] }, hC h70] [] [] [1000000] [] (o3 h69 (Z2 Gp.c u6.gc) h70) ?_
 cases h; exact ⟨(by first | exact .inl rfl | exact .inr rfl), by kernel_rfl, by kernel_rfl⟩
end Go.Proofs.YtjaaacbiaimdlaaGreatDoor

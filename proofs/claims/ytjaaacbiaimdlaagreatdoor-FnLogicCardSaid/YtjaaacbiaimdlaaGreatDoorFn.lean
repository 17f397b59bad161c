/- What the functions do, part 4. -/
import Derived.Test.YtjaaacbiaimdlaaGreatDoorFnc
set_option linter.unusedVariables false
set_option linter.unusedSimpArgs false
namespace Go.Proofs.YtjaaacbiaimdlaaGreatDoor
open Go.RowKit Go.Bv
def Z6 (k : Nat) (u3n : Bool) (zj : Gs) : Option Gs :=
 if (!u3n) = true then
  if (!zj.gv) = true then
   (Z17 k zj).bind fun uaf =>
   some uaf
  else
   some zj
 else
  some zj
def Z3j (k : Nat) (u1 : Gs) (z7 : ByteArray) (u3s : Int × Int) (u5n : Int) (u58 : Int) : Option Gs :=
 if (u5n != 0) = true then
  (Z9 k u1 u5n z7).bind fun uag =>
  some uag
 else
  if (sEq z7 (bs [60, 47, 50])) = true then
   if (decide (u3s.1 < u58)) = true then
    Z6 k true u1
   else
    if (sEq z7 (bs [61, 58, 61, 47, 50])) = true then
     Z6 k (u3s.1 == u58) u1
    else
     Z6 k false u1
  else
   if (sEq z7 (bs [61, 58, 61, 47, 50])) = true then
    Z6 k (u3s.1 == u58) u1
   else
    Z6 k false u1
def Z3k (k : Nat) (u1 : Gs) (u19 : Gt) (u2k : Gt) (z7 : ByteArray) (u6q : Bool) : Option Gs :=
 if u6q = true then
  (Z46 k u1.gU.ge u19 1).bind fun u3s =>
  if (u3s.2 == 0) = true then
   (Z46 k u1.gU.ge u2k 1).bind fun u94 =>
   Z3j k u1 z7 u3s u94.2 u94.1
  else
   Z3j k u1 z7 u3s u3s.2 0
 else
  if (sEq z7 (bs [118, 97, 114, 47, 49])) = true then
   (Z1y k u1.gU.ge u19).bind fun u6r =>
   Z6 k (u6r.2.gi == 1) (Gs.mk u1.gDb (Gu.mk u6r.1 u1.gU.gd u1.gU.gu) u1.gk u1.gl u1.gw u1.gh u1.gc u1.gf u1.gv)
  else
   if (sEq z7 (bs [97, 116, 111, 109, 47, 49])) = true then
    (Z1y k u1.gU.ge u19).bind fun u6s =>
    Z6 k (u6s.2.gi == 2) (Gs.mk u1.gDb (Gu.mk u6s.1 u1.gU.gd u1.gU.gu) u1.gk u1.gl u1.gw u1.gh u1.gc u1.gf u1.gv)
   else
    if (sEq z7 (bs [119, 114, 105, 116, 101, 47, 49])) = true then
     (Z4y k u1 u19).bind fun uah =>
     Z6 k true uah
    else
     if (sEq z7 (bs [97, 115, 115, 101, 114, 116, 122, 47, 49])) = true then
      (Z42 k u1 u19 z7).bind fun uai =>
      Z6 k true uai
     else
      if (sEq z7 (bs [114, 101, 116, 114, 97, 99, 116, 47, 49])) = true then
       (Z2o k u1 u19 z7).bind fun u95 =>
       Z6 k u95.2 u95.1
      else
       Z6 k true u1
def Z50 (k : Nat) (u1 : Gs) (u0z : Gt) (z7 : ByteArray) : Option Gs :=
 (at' u0z.ga 0).bind fun u19 =>
 (at' u0z.ga (wr.i64 ((u0z.ga.length : Int) - 1))).bind fun u2k =>
 if (sEq z7 (bs [61, 47, 50])) = true then
  (Z10 k u1 u19 u2k).bind fun u96 =>
  Z6 k u96.2 u96.1
 else
  if (sEq z7 (bs [92, 61, 47, 50])) = true then
   (Z10 k u1 u19 u2k).bind fun u12 =>
   (Z1b k u12.1 (u1.gU.gd.length : Int) u12.1.gk).bind fun uaj =>
   Z6 k (!u12.2) uaj
  else
   if (sEq z7 (bs [61, 61, 47, 50])) = true then
    (Z64 k u1.gU.ge u19).bind fun u4h =>
    (Z64 k u1.gU.ge u2k).bind fun u5o =>
    if u4h.2 = true then
     if u5o.2 = true then
      (Z5d k u4h.1 u5o.1).bind fun uak =>
      Z6 k uak u1
     else
      Z6 k false u1
    else
     Z6 k false u1
   else
    if (sEq z7 (bs [105, 115, 47, 50])) = true then
     (Z46 k u1.gU.ge u2k 1).bind fun u8e =>
     if (u8e.2 != 0) = true then
      (Z9 k u1 u8e.2 z7).bind fun ual =>
      some ual
     else
      (Zj7 k u8e.1).bind fun u6o =>
      (Z10 k u1 u19 u6o).bind fun u97 =>
      Z6 k u97.2 u97.1
    else
     if (sEq z7 (bs [60, 47, 50])) = true then
      Z3k k u1 u19 u2k z7 (sEq z7 (bs [60, 47, 50]))
     else
      Z3k k u1 u19 u2k z7 (sEq z7 (bs [61, 58, 61, 47, 50]))
set_option maxHeartbeats 4000000 in
theorem Zkd {k : Nat} {u1 : Gs} {u0z : Gt} {z7 : ByteArray} {r : Gs} (h : Z50 k u1 u0z z7 = some r) : FnO Tryz.prog 65 [.p (Gs.k u1) (Gs.h u1), .v (.agg (Gt.q u0z)) [], .v (.str z7) []] (.v (.tup []) []) [(0, .p (Gs.k r) (Gs.h r))] := by
 refine FnO.o2 Tryz.func65 rfl fun _ _ _ _ _ _ => ?_
 unfold Z50 at h
 refine Wc.s0 [0, 2, 4] [4, 1000000] ?_
 obtain ⟨u19, h81, h⟩ := oc h fun u19 h81 => (Z11 (c := Gt.c) (Gt.c_eq u19) Gt.c_len h81)
 refine Wc.s2 [{}, {}, hE h81] [0, 2, 4, 6] [4, 6, 1000000] (o2 h81 (lenE h81 4)) ?_
 obtain ⟨u2k, h83, h⟩ := oc h fun u2k h83 => (Z11 (c := Gt.c) (Gt.c_eq u2k) Gt.c_len h83)
 refine Wc.s2 [{}, {}, {}, {}, hL u0z.ga, {}, hE h83] [0, 2, 6, 7] [6, 7, 1000000] (o3 (Z2 Gt.c u0z.ga) h83 (lenE h83 4)) ?_
 refine Wc.s0 [0, 2, 6, 7, 8] [6, 7, 1000000] ?_
 refine Wc.seqJ (fun st => ∃ (u3n : Bool) (zj : Gs), st = ⟨[tP 0 1000000, tB 8 u3n], [(1000000, .cells (Gs.k zj) (Gs.h zj))], []⟩ ∧ Z6 k u3n zj = some r) ?_ ?_
 ·refine Wc.s0 [0, 2, 6, 7, 8, 31] [6, 7, 1000000] ?_
  apply Wc.block
  refine Wc.s0 [0, 2, 6, 7, 8, 31, 32] [6, 7, 1000000] ?_
  refine Wc.ci h (fun _ h => ?_) (fun _ h => ?_)
  ·obtain ⟨u96, h90, h⟩ := oc h fun _ => Z56
   refine Wc.k2 [{}, {}, {}, hC h90] [0, 8] [1000000] (o1 h90) ?_
   exact ⟨_, _, stB h⟩
  refine Wc.s0 [0, 2, 6, 7, 8, 31, 38] [6, 7, 1000000] ?_
  refine Wc.ci h (fun _ h => ?_) (fun _ h => ?_)
  ·refine Wc.s2 [{}, {}, {}, {}, {}, hL u1.gU.gd] [0, 6, 7, 9] [6, 7, 1000000] (o1 (Z2 cI.i64 u1.gU.gd)) ?_
   obtain ⟨u12, h93, h⟩ := oc h fun _ => Z56
   refine Wc.s2 [{}, {}, {}, hC h93] [0, 8, 9] [1000000] (o1 h93) ?_
   obtain ⟨uaj, h95, h⟩ := oc h fun _ => Z6t
   refine Wc.k2 [{}, {}, {}, {}, {}, {}, hC h95] [0, 8] [1000000] (o1 h95) ?_
   exact ⟨_, _, stB h⟩
  refine Wc.s0 [0, 2, 6, 7, 8, 31, 58] [6, 7, 1000000] ?_
  refine Wc.ci h (fun _ h => ?_) (fun _ h => ?_)
  ·apply Wc.seq
   obtain ⟨u4h, h98, h⟩ := oc h fun _ => Zcl
   refine Wc.every hmix [{}, {}, {}, {}, {}, {}, hC h98, hK [67], hK [60], {}, {}, hK [68]] [] [0, 7, 10, 11] [7, 10, 1000000] [] ⟨[tP 0 1000000, tP 7 7, tP 10 10, tB 11 u4h.2], [bC 7 (Gt.q u2k), (10, .cells (Gt.qx u4h.1) (Gt.h3_31t u4h.1)), (1000000, .cells (Gs.k u1) (Gs.h u1))], []⟩ _ 192 (by kernel_rfl) (.cons .nil (.cons .nil (.cons .nil (.cons .nil (.cons .nil (.cons .nil (.cons (oC h98 AllP.nil) (.cons .nil (.cons .nil (.cons .nil (.cons .nil (.cons .nil (.cons .nil .nil))))))))))))) ?_
   apply Wc.seq
   obtain ⟨u5o, h100, h⟩ := oc h fun _ => Zcl
   refine Wc.every hmix [{}, {}, {}, {}, {}, {}, hC h100, hK [77], hK [70], {}, {}, hK [78]] [] [0, 10, 11, 12, 13] [10, 12, 1000000] [] ⟨[tP 0 1000000, tP 10 10, tB 11 u4h.2, tP 12 12, tB 13 u5o.2], [(10, .cells (Gt.qx u4h.1) (Gt.h3_31t u4h.1)), (12, .cells (Gt.qx u5o.1) (Gt.h3_31t u5o.1)), (1000000, .cells (Gs.k u1) (Gs.h u1))], []⟩ _ 192 (by kernel_rfl) (.cons .nil (.cons .nil (.cons .nil (.cons .nil (.cons .nil (.cons .nil (.cons (oC h100 AllP.nil) (.cons .nil (.cons .nil (.cons .nil (.cons .nil (.cons .nil (.cons .nil .nil))))))))))))) ?_
   rcases oif h with ⟨h102, h⟩ | ⟨h102, h⟩
   ·rcases oif h with ⟨h103, h⟩ | ⟨h103, h⟩
    ·obtain ⟨uak, h104, h⟩ := oc h fun _ => Zr3
     refine Wc.k2 [{}, rT, {}, {}, rT, {}, {}, hC h104] [0, 8] [1000000] (o3 (cb h102) (cb h103) h104) ?_
     exact ⟨_, _, stB h⟩
    refine Wc.k2 [{}, rT, {}, {}, rF] [0, 8] [1000000] (o2 (cb h102) (cb h103)) ?_
    exact ⟨_, _, stB h⟩
   refine Wc.k2 [{}, rF] [0, 8] [1000000] (o1 (cb h102)) ?_
   exact ⟨_, _, stB h⟩
  refine Wc.s0 [0, 2, 6, 7, 8, 31, 89] [6, 7, 1000000] ?_
  refine Wc.ci h (fun _ h => ?_) (fun _ h => ?_)
  ·apply Wc.seq
   obtain ⟨u8e, h107, h⟩ := oc h fun _ => Zr1
   refine Wc.dk hmix [{}, {}, {}, {}, {}, {}, hC h107] [] [0, 2, 6, 14, 15] [6, 1000000] [] (o1 h107) ?_
   apply Wc.seq
   refine Wc.s0 [0, 2, 6, 14, 15, 102] [6, 1000000] ?_
   refine Wc.ci h (fun _ h => ?_) (fun _ h => ?_)
   ·obtain ⟨ual, h110, h⟩ := oc h fun _ => Z1a
    refine Wc.s2 [{}, {}, {}, hC h110] [] [1000000] (o1 h110) ?_
    refine Wc.ret ?_
    cases h; exact ⟨(by first | exact .inl rfl | exact .inr rfl), by kernel_rfl, by kernel_rfl⟩
   refine Wc.ks [0, 6, 14] [6, 1000000] ?_
   obtain ⟨u6o, h112, h⟩ := oc h fun _ => Zwh
   obtain ⟨u97, h113, h⟩ := oc h fun _ => Z56
   refine Wc.dk hmix [{}, {}, {}, hC h112, hC h113] [] [0, 8] [1000000] [] (o2 h112 h113) ?_
   exact ⟨_, _, stB h⟩
  refine Wc.seqJ (fun st => ∃ (u6q : Bool), st = ⟨[tP 0 1000000, tS 2 z7, tP 6 6, tP 7 7, tB 8 true, tS 31 z7, tB 112 u6q], [bC 6 (Gt.q u19), bC 7 (Gt.q u2k), (1000000, .cells (Gs.k u1) (Gs.h u1))], []⟩ ∧ Z3k k u1 u19 u2k z7 u6q = some r) ?_ ?_
  ·refine Wc.s0 [0, 2, 6, 7, 8, 31, 112] [6, 7, 1000000] ?_
   refine Wc.ci h (fun _ h => ?_) (fun _ h => ?_)
   ·apply Wc.skip
    exact ⟨_, stB h⟩
   refine Wc.k0 [0, 2, 6, 7, 8, 31, 112] [6, 7, 1000000] ?_
   exact ⟨_, stB h⟩
  rintro st ⟨u6q, rfl, h⟩
  refine Wc.ci h (fun _ h => ?_) (fun _ h => ?_)
  ·apply Wc.seq
   obtain ⟨u3s, h117, h⟩ := oc h fun _ => Zr1
   refine Wc.dk hmix [{}, {}, {}, {}, {}, {}, hC h117] [] [0, 2, 7, 16, 17] [7, 1000000] [] (o1 h117) ?_
   refine Wc.s0 [0, 2, 7, 16, 17, 18] [7, 1000000] ?_
   refine Wc.seqJ (fun st => ∃ (u5n : Int) (u58 : Int), st = ⟨[tP 0 1000000, tS 2 z7, tI 16 u3s.1, tI 17 u5n, tI 18 u58], [(1000000, .cells (Gs.k u1) (Gs.h u1))], []⟩ ∧ Z3j k u1 z7 u3s u5n u58 = some r) ?_ ?_
   ·refine Wc.s0 [0, 2, 7, 16, 17, 18, 126] [7, 1000000] ?_
    refine Wc.ci h (fun _ h => ?_) (fun _ h => ?_)
    ·obtain ⟨u94, h126, h⟩ := oc h fun _ => Zr1
     refine Wc.dk hmix [{}, {}, {}, {}, {}, {}, hC h126] [] [0, 2, 16, 17, 18] [1000000] [] (o1 h126) ?_
     exact ⟨_, _, stB h⟩
    refine Wc.ks [0, 2, 16, 17, 18] [1000000] ?_
    exact ⟨_, _, stB h⟩
   rintro st ⟨u5n, u58, rfl, h⟩
   apply Wc.seq
   refine Wc.s0 [0, 2, 16, 17, 18, 138] [1000000] ?_
   refine Wc.ci h (fun _ h => ?_) (fun _ h => ?_)
   ·obtain ⟨uag, h120, h⟩ := oc h fun _ => Z1a
    refine Wc.s2 [{}, {}, {}, hC h120] [] [1000000] (o1 h120) ?_
    refine Wc.ret ?_
    cases h; exact ⟨(by first | exact .inl rfl | exact .inr rfl), by kernel_rfl, by kernel_rfl⟩
   refine Wc.ks [0, 2, 16, 18] [1000000] ?_
   rcases oif h with ⟨h122, h⟩ | ⟨h122, h⟩
   ·rcases oif h with ⟨h123, h⟩ | ⟨h123, h⟩
    ·refine Wc.k2 [{}, {}, rT, {}, {}, {}, {}, rT] [0, 8] [1000000] (o2 (cb h122) (cb h123)) ?_
     exact ⟨_, _, stB h⟩
    rcases oif h with ⟨h124, h⟩ | ⟨h124, h⟩
    ·refine Wc.k2 [{}, {}, rT, {}, {}, {}, {}, rF, {}, {}, rT] [0, 8] [1000000] (o3 (cb h122) (cb h123) (cb h124)) ?_
     exact ⟨_, _, stB h⟩
    refine Wc.k2 [{}, {}, rT, {}, {}, {}, {}, rF, {}, {}, rF] [0, 8] [1000000] (o3 (cb h122) (cb h123) (cb h124)) ?_
    exact ⟨_, _, stB h⟩
   rcases oif h with ⟨h123, h⟩ | ⟨h123, h⟩
   ·refine Wc.k2 [{}, {}, rF, {}, {}, {}, {}, {}, {}, {}, rT] [0, 8] [1000000] (o2 (cb h122) (cb h123)) ?_
    exact ⟨_, _, stB h⟩
   refine Wc.k2 [{}, {}, rF, {}, {}, {}, {}, {}, {}, {}, rF] [0, 8] [1000000] (o2 (cb h122) (cb h123)) ?_
   exact ⟨_, _, stB h⟩
  refine Wc.s0 [0, 2, 6, 8, 31, 159] [6, 1000000] ?_
  refine Wc.ci h (fun _ h => ?_) (fun _ h => ?_)
  ·obtain ⟨u6r, h129, h⟩ := oc h fun _ => Z5i
   refine Wc.meet hmix [{}, {}, {}, {}, {}, {}, { hC h129 with io := [0] }] [] [] [0, 2, 6, 8, 31, 159, 161, 162, 163, 164, 165, 166, 167, 168, 169] [6, 1000000] [] [] [0, 8] [1000000] [] ⟨[tP 0 1000000, tB 8 (u6r.2.gi == 1)], [(1000000, .cells (Gs.k u1) [(2, .ex 31 false (List.map Gt.c u6r.1)), (3, .ex 3 false (List.map cI.i64 u1.gU.gd)), (9, .ex 78 false (List.map Gp.c u1.gc)), (10, .ex 31 false (List.map Gt.c u1.gf.gp))])], []⟩ _ [0, 1, 32, 3, 33, 7, 35, 15, 39, 31, 47, 63, 127, 255, 511, 1023] (by kernel_rfl) (by kernel_rfl) (by as_aux_lemma => kernel_rfl) (by kernel_rfl) (by kernel_rfl) (.cons .nil (.cons .nil (.cons .nil (.cons .nil (.cons .nil (.cons .nil (.cons (oC h129 AllP.nil) (.cons .nil (.cons .nil (.cons .nil .nil)))))))))) ?_
   exact ⟨_, _, stB h⟩
  refine Wc.s0 [0, 2, 6, 8, 31, 170] [6, 1000000] ?_
  refine Wc.ci h (fun _ h => ?_) (fun _ h => ?_)
  ·obtain ⟨u6s, h132, h⟩ := oc h fun _ => Z5i
   refine Wc.meet hmix [{}, {}, {}, {}, {}, {}, { hC h132 with io := [0] }] [] [] [0, 2, 6, 8, 31, 170, 172, 173, 174, 175, 176, 177, 178, 179, 180] [6, 1000000] [] [] [0, 8] [1000000] [] ⟨[tP 0 1000000, tB 8 (u6s.2.gi == 2)], [(1000000, .cells (Gs.k u1) [(2, .ex 31 false (List.map Gt.c u6s.1)), (3, .ex 3 false (List.map cI.i64 u1.gU.gd)), (9, .ex 78 false (List.map Gp.c u1.gc)), (10, .ex 31 false (List.map Gt.c u1.gf.gp))])], []⟩ _ [0, 1, 32, 3, 33, 7, 35, 15, 39, 31, 47, 63, 127, 255, 511, 1023] (by kernel_rfl) (by kernel_rfl) (by as_aux_lemma => kernel_rfl) (by kernel_rfl) (by kernel_rfl) (.cons .nil (.cons .nil (.cons .nil (.cons .nil (.cons .nil (.cons .nil (.cons (oC h132 AllP.nil) (.cons .nil (.cons .nil (.cons .nil .nil)))))))))) ?_
   exact ⟨_, _, stB h⟩
  refine Wc.s0 [0, 2, 6, 8, 31, 181] [6, 1000000] ?_
  refine Wc.ci h (fun _ h => ?_) (fun _ h => ?_)
  ·obtain ⟨uah, h135, h⟩ := oc h fun _ => Zkb
   refine Wc.k2 [{}, {}, hC h135] [0, 8] [1000000] (o1 h135) ?_
   exact ⟨_, _, stB h⟩
  refine Wc.s0 [0, 2, 6, 8, 31, 186] [6, 1000000] ?_
  refine Wc.ci h (fun _ h => ?_) (fun _ h => ?_)
  ·obtain ⟨uai, h138, h⟩ := oc h fun _ => Zh2
   refine Wc.k2 [{}, {}, {}, hC h138] [0, 8] [1000000] (o1 h138) ?_
   exact ⟨_, _, stB h⟩
  refine Wc.s0 [0, 2, 6, 8, 192] [6, 1000000] ?_
  refine Wc.ci h (fun _ h => ?_) (fun _ h => ?_)
  ·obtain ⟨u95, h141, h⟩ := oc h fun _ => Zh1
   refine Wc.k2 [{}, {}, {}, hC h141] [0, 8] [1000000] (o1 h141) ?_
   exact ⟨_, _, stB h⟩
  refine Wc.ks [0, 8] [1000000] ?_
  exact ⟨_, _, stB h⟩
 rintro st ⟨u3n, zj, rfl, h⟩
 rcases oif h with ⟨h85, h⟩ | ⟨h85, h⟩
 ·refine Wc.s2 [{}, {}, rT] [0, 206] [1000000] (o1 (cb h85)) ?_
  refine Wc.ci h (fun _ h => ?_) (fun _ h => ?_)
  ·obtain ⟨uaf, h87, h⟩ := oc h fun _ => Z8g
   refine Wc.k2 [{}, hC h87] [] [1000000] (o1 h87) ?_
   cases h; exact ⟨(by first | exact .inl rfl | exact .inr rfl), by kernel_rfl, by kernel_rfl⟩
  refine Wc.ks [] [1000000] ?_
  cases h; exact ⟨(by first | exact .inl rfl | exact .inr rfl), by kernel_rfl, by kernel_rfl⟩
 refine Wc.s2 [{}, {}, rF] [0, 206] [1000000] (o1 (cb h85)) ?_
 refine Wc.cF rfl ?_
 refine Wc.ks [] [1000000] ?_
 cases h; exact ⟨(by first | exact .inl rfl | exact .inr rfl), by kernel_rfl, by kernel_rfl⟩

def Z2p (k : Nat) (uq : Gs) (u4i : Gt) (u36 : (List Gc)) : Option Gs :=
 (Z1v k uq u4i u36).bind fun u8f =>
 if (!u8f.2) = true then
  (Z17 k u8f.1).bind fun zj =>
  some zj
 else
  some u8f.1
def Z3h (k : Nat) (uq : Gs) (u4i : Gt) (u25 : ByteArray) : Option Gs :=
 (Z8q k uq.gDb u25).bind fun u36 =>
 if ((u36.length : Int) == 0) = true then
  (Zfq k uq.gDb u25).bind fun uam =>
  if (!uam) = true then
   (Z9 k uq 0 u25).bind fun uan =>
   some uan
  else
   Z2p k uq u4i u36
 else
  Z2p k uq u4i u36
theorem Zg7 {k : Nat} {uq : Gs} {u4i : Gt} {u25 : ByteArray} {r : Gs} (h : Z3h k uq u4i u25 = some r) : FnO Tryz.prog 66 [.p (Gs.k uq) (Gs.h uq), .v (.agg (Gt.q u4i)) [], .v (.str u25) []] (.v (.tup []) []) [(0, .p (Gs.k r) (Gs.h r))] := by
 refine FnO.o2 Tryz.func66 rfl fun _ _ _ _ _ _ => ?_
 unfold Z3h at h
 refine Wc.s0 [0, 2, 4] [4, 1000000] ?_
 obtain ⟨u36, h83, h⟩ := oc h fun _ => Zph
 refine Wc.s2 [{}, {}, {}, {}, {}, hC h83, hK [12]] [0, 2, 4, 6] [4, 1000000] (o1 h83) ?_
 refine Wc.seqJ (fun st => st = ⟨[tP 0 1000000, tP 4 4, (6, (.v (.sl (List.map Gc.c u36)), [(0, .app 63)]))], [bC 4 (Gt.q u4i), (1000000, .cells (Gs.k uq) (Gs.h uq))], []⟩ ∧ Z2p k uq u4i u36 = some r) ?_ ?_
 ·rcases oif h with ⟨h90, h⟩ | ⟨h90, h⟩
  ·obtain ⟨uam, h91, h⟩ := oc h fun _ => Zyl
   refine Wc.s2 [{}, hL u36, {}, rT, {}, {}, {}, {}, {}, hC h91] [0, 2, 4, 6, 24] [4, 1000000] (o3 (Z2 Gc.c u36) (cb h90) h91) ?_
   refine Wc.ci h (fun _ h => ?_) (fun _ h => ?_)
   ·obtain ⟨uan, h94, h⟩ := oc h fun _ => Z1a
    refine Wc.s2 [{}, {}, hC h94] [] [1000000] (o1 h94) ?_
    refine Wc.ret ?_
    cases h; exact ⟨(by first | exact .inl rfl | exact .inr rfl), by kernel_rfl, by kernel_rfl⟩
   refine Wc.ks [0, 4, 6] [4, 1000000] ?_
   exact stB h
  refine Wc.s2 [{}, hL u36, {}, rF] [0, 2, 4, 6, 24] [4, 1000000] (o2 (Z2 Gc.c u36) (cb h90)) ?_
  refine Wc.cF rfl ?_
  refine Wc.ks [0, 4, 6] [4, 1000000] ?_
  exact stB h
 rintro st ⟨rfl, h⟩
 obtain ⟨u8f, h85, h⟩ := oc h fun _ => Zbt
 refine Wc.s2 [{}, {}, hK [6], hC h85] [0, 32] [1000000] (o1 h85) ?_
 refine Wc.ci h (fun _ h => ?_) (fun _ h => ?_)
 ·obtain ⟨zj, h88, h⟩ := oc h fun _ => Z8g
  refine Wc.k2 [{}, hC h88] [] [1000000] (o1 h88) ?_
  cases h; exact ⟨(by first | exact .inl rfl | exact .inr rfl), by kernel_rfl, by kernel_rfl⟩
 refine Wc.ks [] [1000000] ?_
 cases h; exact ⟨(by first | exact .inl rfl | exact .inr rfl), by kernel_rfl, by kernel_rfl⟩

def Z3q (k : Nat) (uv : Gs) (z4 : Gt) : Option Gs :=
 (Z1h k uv z4).bind fun us =>
 if (!us.2.2) = true then
  some us.1
 else
  if us.1.gf.gp.length + [Gt.mk 0 (bs []) 0 []].length ≤ 1073741824 then
   (at' (us.1.gf.gp ++ [Gt.mk 0 (bs []) 0 []]) (us.1.gf.gp.length : Int)).bind fun vv =>
   if ((((us.1.gf.gp ++ [Gt.mk 0 (bs []) 0 []]).set (((us.1.gf.gp.length : Int)).toNat) us.2.1).length : Int) == 8) = true then
    (Z1g k (Gs.mk us.1.gDb us.1.gU us.1.gk us.1.gl us.1.gw us.1.gh us.1.gc (Gw.mk ((us.1.gf.gp ++ [Gt.mk 0 (bs []) 0 []]).set (((us.1.gf.gp.length : Int)).toNat) us.2.1) us.1.gf.gz us.1.gf.gx us.1.gf.gf us.1.gf.gDb us.1.gf.gl) us.1.gv) 3).bind fun ua =>
    some ua
   else
    (Z17 k (Gs.mk us.1.gDb us.1.gU us.1.gk us.1.gl us.1.gw us.1.gh us.1.gc (Gw.mk ((us.1.gf.gp ++ [Gt.mk 0 (bs []) 0 []]).set (((us.1.gf.gp.length : Int)).toNat) us.2.1) us.1.gf.gz us.1.gf.gx us.1.gf.gf us.1.gf.gDb us.1.gf.gl) us.1.gv)).bind fun zx =>
    some zx
  else none
theorem Zi6 {k : Nat} {uv : Gs} {z4 : Gt} {r : Gs} (h : Z3q k uv z4 = some r) : FnO Tryz.prog 36 [.p (Gs.k uv) (Gs.h uv), .v (.agg (Gt.q z4)) []] (.v (.tup []) []) [(0, .p (Gs.k r) (Gs.h r))] := by
 refine FnO.o2 Tryz.func36 rfl fun _ _ _ _ _ _ => ?_
 unfold Z3q at h
 refine Wc.s0 [0, 3] [3, 1000000] ?_
 obtain ⟨us, h3, h⟩ := oc h fun _ => Z4v
 refine Wc.s2 [{}, {}, hC h3] [0, 4, 5] [4, 1000000] (o1 h3) ?_
 apply Wc.seq
 refine Wc.s0 [0, 4, 13] [4, 1000000] ?_
 refine Wc.ci h (fun _ h => ?_) (fun _ h => ?_)
 ·refine Wc.fk [] [] [1000000] [] ?_
  refine Wc.ret ?_
  cases h; exact ⟨(by first | exact .inl rfl | exact .inr rfl), by kernel_rfl, by kernel_rfl⟩
 refine Wc.ks [0, 4] [4, 1000000] ?_
 apply Wc.seq
 have h6 := (Z1l (c := Gt.c) (x := Gt.mk 0 (bs []) 0 []) (Gt.c_eq (Gt.mk 0 (bs []) 0 [])) (Z2s Gt.c))
 obtain ⟨h7, h⟩ := Z4 h
 have h8 := (Z30 Gt.c us.1.gf.gp [Gt.mk 0 (bs []) 0 []])
 obtain ⟨vv, h9, h⟩ := Z2d h
 refine Wc.meet hmix [{}, {}, {}, {}, hM 1, {}, hL us.1.gf.gp, hB h6, { hB h8 with tk := [18], md := 1 }, {}, { c := some (List.map Gt.c ((us.1.gf.gp ++ [Gt.mk 0 (bs []) 0 []]).set (((us.1.gf.gp.length : Int)).toNat) us.2.1)) }, {}, {}, {}, { tk := [22], io := [23], md := 5 }] [] [] [0, 4, 14, 15, 16, 17, 18, 19, 20, 21, 22, 23, 24, 25, 26] [4, 1000000] [] [] [0] [1000000] [] ⟨[tP 0 1000000], [(1000000, .cells (Gs.k us.1) [(2, .ex 31 false (List.map Gt.c us.1.gU.ge)), (3, .ex 3 false (List.map cI.i64 us.1.gU.gd)), (9, .ex 78 false (List.map Gp.c us.1.gc)), (10, .ex 31 false (List.map Gt.c ((us.1.gf.gp ++ [Gt.mk 0 (bs []) 0 []]).set (((us.1.gf.gp.length : Int)).toNat) us.2.1)))])], []⟩ _ [0, 1, 32, 128, 3, 33, 129, 160, 7, 35, 131, 161, 15, 39, 135, 163, 31, 47, 143, 167, 63, 95, 159, 175, 127, 191, 223, 255, 511, 1023, 2559, 2047, 3071, 6655, 4095, 7167, 14847, 8191, 15359, 31231, 16383, 31743, 32767] (by kernel_rfl) (by kernel_rfl) (by as_aux_lemma => kernel_rfl) (by kernel_rfl) (by kernel_rfl) (.cons .nil (.cons .nil (.cons .nil (.cons .nil (.cons .nil (.cons .nil (.cons (oC (Z2 Gt.c us.1.gf.gp) AllP.nil) (.cons (oC h6 AllP.nil) (.cons (oA h8 Gt.c_leaf Gt.c_len h7 AllP.nil) (.cons (oC (Zhj (c := Gt.c) Gt.c_len h9) AllP.nil) (.cons (oC (Zmy (off := 0) (new := (Gt.q us.2.1)) (c := Gt.c) (Gt.c_eq vv) (Gt.c_eq us.2.1) (Z5y h9).2 rfl) (oC (Zrm (sz := 4) (off := 0) (s := 4) (c := Gt.c) (Gt.c_eq vv) (Z5y h9).2 rfl (Nat.le_of_ble_eq_true rfl)) AllP.nil)) (.cons .nil (.cons .nil (.cons .nil (.cons .nil .nil))))))))))))))) ?_
 apply Wc.seq
 refine Wc.s2 [{}, {}, {}, {}, {}, hL ((us.1.gf.gp ++ [Gt.mk 0 (bs []) 0 []]).set (((us.1.gf.gp.length : Int)).toNat) us.2.1)] [0, 33] [1000000] (o1 (Z2 Gt.c ((us.1.gf.gp ++ [Gt.mk 0 (bs []) 0 []]).set (((us.1.gf.gp.length : Int)).toNat) us.2.1))) ?_
 refine Wc.ci h (fun _ h => ?_) (fun _ h => ?_)
 ·obtain ⟨ua, h11, h⟩ := oc h fun _ => Z2a
  refine Wc.s2 [{}, hC h11] [] [1000000] (o1 h11) ?_
  refine Wc.ret ?_
  cases h; exact ⟨(by first | exact .inl rfl | exact .inr rfl), by kernel_rfl, by kernel_rfl⟩
 refine Wc.ks [0] [1000000] ?_
 obtain ⟨zx, h13, h⟩ := oc h fun _ => Z8g
 refine Wc.k2 [{}, hC h13] [] [1000000] (o1 h13) ?_
 cases h; exact ⟨(by first | exact .inl rfl | exact .inr rfl), by kernel_rfl, by kernel_rfl⟩

def Z37 (k : Nat) (u2 : Gs) (z1 : ByteArray) (vz : Gt) (u6t : Bool) : Option Gs :=
 if u6t = true then
  (Z9 k u2 2 z1).bind fun u6a =>
  some u6a
 else
  (Z9n k z1).bind fun u6c =>
  if u6c = true then
   (Z50 k u2 vz z1).bind fun uao =>
   some uao
  else
   (Z3h k u2 vz z1).bind fun zj =>
   some zj
def Z41 (k : Nat) (u2 : Gs) (vz : Gt) (z1 : ByteArray) (vg : Int) (u0s : Bool) : Option Gs :=
 if u0s = true then
  (Z3i k u2 vz z1).bind fun u6p =>
  some u6p
 else
  if (sEq z1 (bs [99, 97, 116, 99, 104, 47, 51])) = true then
   (Z1e k u2 Gf.nil).bind fun u0v =>
   (at' vz.ga 1).bind fun u1u =>
   (at' vz.ga 2).bind fun u1t =>
   (at' vz.ga 0).bind fun u54 =>
   (Z1q k (Gs.mk u0v.1.gDb u0v.1.gU u0v.1.gk u0v.1.gl u0v.1.gw (Gf.mk 3 (Gt.mk 0 (bs []) 0 []) 0 (Ga.mk u0v.2.gAt u0v.2.gL u0v.2.gk u0v.2.gh u1u u1t vg u0v.1.gh) u0v.1.gh) u0v.1.gc u0v.1.gf u0v.1.gv) u54 (u0v.1.gc.length : Int)).bind fun u6n =>
   some u6n
  else
   if (sEq z1 (bs [116, 104, 114, 111, 119, 47, 49])) = true then
    (at' vz.ga 0).bind fun u8g =>
    (Z1h k u2 u8g).bind fun u6u =>
    if u6u.2.2 = true then
     (Z44 k u6u.1 u6u.2.1).bind fun uq =>
     some uq
    else
     some u6u.1
   else
    if (sEq z1 (bs [58, 45, 47, 50])) = true then
     Z37 k u2 z1 vz (sEq z1 (bs [58, 45, 47, 50]))
    else
     if (sEq z1 (bs [58, 45, 47, 49])) = true then
      Z37 k u2 z1 vz (sEq z1 (bs [58, 45, 47, 49]))
     else
      Z37 k u2 z1 vz (sEq z1 (bs [45, 45, 62, 47, 50]))
def Z16 (k : Nat) (u2 : Gs) (vz : Gt) (vg : Int) : Option Gs :=
 (Z5l k vz).bind fun z1 =>
 if (vz.gi == 1) = true then
  (Z9 k u2 1 (bs [99, 97, 108, 108, 47, 49])).bind fun v2 =>
  some v2
 else
  if (vz.gi == 3) = true then
   (Z9 k u2 2 (bs [99, 97, 108, 108, 47, 49])).bind fun u0 =>
   some u0
  else
   if (sEq z1 (bs [116, 114, 117, 101, 47, 48])) = true then
    some u2
   else
    if (sEq z1 (bs [102, 97, 105, 108, 47, 48])) = true then
     (Z17 k u2).bind fun uap =>
     some uap
    else
     if (sEq z1 (bs [33, 47, 48])) = true then
      if 0 ≤ (if vg < (u2.gc.length : Int) then vg else (u2.gc.length : Int)) ∧ (if vg < (u2.gc.length : Int) then vg else (u2.gc.length : Int)) ≤ (u2.gc.length : Int) then
       some (Gs.mk u2.gDb u2.gU u2.gk u2.gl u2.gw u2.gh (u2.gc.take ((if vg < (u2.gc.length : Int) then vg else (u2.gc.length : Int))).toNat) u2.gf u2.gv)
      else none
     else
      if (sEq z1 (bs [44, 47, 50])) = true then
       (at' vz.ga 1).bind fun ui =>
       (Z1q k u2 ui vg).bind fun u3 =>
       (at' vz.ga 0).bind fun ub =>
       (Z1q k u3 ub vg).bind fun u6v =>
       some u6v
      else
       if (sEq z1 (bs [59, 47, 50])) = true then
        (at' vz.ga 0).bind fun z3 =>
        (at' vz.ga 1).bind fun v9 =>
        (Z28 k u2 z3 v9 vg).bind fun z6 =>
        some z6
       else
        if (sEq z1 (bs [45, 62, 47, 50])) = true then
         (Z92 k (bs [102, 97, 105, 108])).bind fun zu =>
         (Z28 k u2 vz zu vg).bind fun vr =>
         some vr
        else
         if (sEq z1 (bs [92, 43, 47, 49])) = true then
          (at' vz.ga 0).bind fun zv =>
          (Z92 k (bs [102, 97, 105, 108])).bind fun un =>
          (Z3b k (bs [45, 62]) [zv, un]).bind fun vq =>
          (Z92 k (bs [116, 114, 117, 101])).bind fun ve =>
          (Z28 k u2 vq ve vg).bind fun u5 =>
          some u5
         else
          if (sEq z1 (bs [99, 97, 108, 108, 47, 49])) = true then
           (at' vz.ga 0).bind fun vw =>
           (Z1q k u2 vw (u2.gc.length : Int)).bind fun u6m =>
           some u6m
          else
           if (sEq z1 (bs [99, 97, 108, 108, 47, 50])) = true then
            Z41 k u2 vz z1 vg (sEq z1 (bs [99, 97, 108, 108, 47, 50]))
           else
            Z41 k u2 vz z1 vg (sEq z1 (bs [99, 97, 108, 108, 47, 51]))
set_option maxHeartbeats 4000000 in
theorem Zl3 {k : Nat} {u2 : Gs} {vz : Gt} {vg : Int} {r : Gs} (h : Z16 k u2 vz vg = some r) : FnO Tryz.prog 37 [.p (Gs.k u2) (Gs.h u2), .v (.agg (Gt.q vz)) [], .v (aI vg) []] (.v (.tup []) []) [(0, .p (Gs.k r) (Gs.h r))] := by
 refine FnO.o2 Tryz.func37 rfl fun _ _ _ _ _ _ => ?_
 unfold Z16 at h
 refine Wc.s0 [0, 2, 4] [4, 1000000] ?_
 obtain ⟨z1, h20, h⟩ := oc h fun _ => Z90
 refine Wc.s2 [{}, hC h20] [0, 2, 4, 6] [4, 1000000] (o1 h20) ?_
 apply Wc.seq
 refine Wc.s0 [0, 2, 4, 6, 13] [4, 1000000] ?_
 apply Wc.block
 refine Wc.s0 [0, 2, 4, 6, 13, 14] [4, 1000000] ?_
 refine Wc.ci h (fun _ h => ?_) (fun _ h => ?_)
 ·obtain ⟨v2, h23, h⟩ := oc h fun _ => Z1a
  refine Wc.s2 [{}, hC h23] [] [1000000] (o1 h23) ?_
  refine Wc.ret ?_
  cases h; exact ⟨(by first | exact .inl rfl | exact .inr rfl), by kernel_rfl, by kernel_rfl⟩
 refine Wc.s0 [0, 2, 4, 6, 18] [4, 1000000] ?_
 refine Wc.ci h (fun _ h => ?_) (fun _ h => ?_)
 ·obtain ⟨u0, h26, h⟩ := oc h fun _ => Z1a
  refine Wc.s2 [{}, hC h26] [] [1000000] (o1 h26) ?_
  refine Wc.ret ?_
  cases h; exact ⟨(by first | exact .inl rfl | exact .inr rfl), by kernel_rfl, by kernel_rfl⟩
 refine Wc.ks [0, 2, 4, 6] [4, 1000000] ?_
 refine Wc.s0 [0, 2, 4, 6, 22] [4, 1000000] ?_
 apply Wc.block
 refine Wc.s0 [0, 2, 4, 6, 22, 33] [4, 1000000] ?_
 refine Wc.ci h (fun _ h => ?_) (fun _ h => ?_)
 ·refine Wc.ks [] [1000000] ?_
  cases h; exact ⟨(by first | exact .inl rfl | exact .inr rfl), by kernel_rfl, by kernel_rfl⟩
 refine Wc.s0 [0, 2, 4, 6, 22, 35] [4, 1000000] ?_
 refine Wc.ci h (fun _ h => ?_) (fun _ h => ?_)
 ·obtain ⟨uap, h30, h⟩ := oc h fun _ => Z8g
  refine Wc.k2 [{}, hC h30] [] [1000000] (o1 h30) ?_
  cases h; exact ⟨(by first | exact .inl rfl | exact .inr rfl), by kernel_rfl, by kernel_rfl⟩
 refine Wc.s0 [0, 2, 4, 6, 22, 39] [4, 1000000] ?_
 refine Wc.ci h (fun _ h => ?_) (fun _ h => ?_)
 ·obtain ⟨h33, h⟩ := Z4 h
  refine Wc.meet hmix [{}, {}, {}, {}, {}, {}, {}, {}, {}, hL u2.gc, {}, {}, { c := some (List.map Gp.c (u2.gc.take ((if vg < (u2.gc.length : Int) then vg else (u2.gc.length : Int))).toNat)), tk := [45], fx := [.pl 45] }, {}, {}, hK [53]] [] [] [0, 2, 4, 6, 22, 39, 41, 42, 43, 44, 45, 46, 47, 48, 49, 50, 51, 52, 53, 54, 55] [4, 1000000] [] [.so 1000000] [] [1000000] [] ⟨[], [(1000000, .cells (Gs.k u2) [(2, .ex 31 false (List.map Gt.c u2.gU.ge)), (3, .ex 3 false (List.map cI.i64 u2.gU.gd)), (9, .ex 78 false (List.map Gp.c (u2.gc.take ((if vg < (u2.gc.length : Int) then vg else (u2.gc.length : Int))).toNat))), (10, .ex 31 false (List.map Gt.c u2.gf.gp))])], []⟩ _ [0, 1, 2, 32, 1024, 3, 33, 1025, 6, 34, 1026, 96, 1056, 7, 35, 1027, 97, 1057, 14, 38, 1030, 98, 1058, 224, 1120, 15, 39, 1031, 99, 1059, 225, 1121, 30, 46, 1038, 102, 1062, 226, 1122, 480, 1248, 31, 47, 1039, 103, 1063, 227, 1123, 481, 1249, 62, 1054, 110, 1070, 230, 1126, 482, 1250, 992, 1504, 63, 1055, 111, 1071, 231, 1127, 483, 1251, 993, 1505, 126, 1086, 238, 1134, 486, 1254, 994, 1506, 2016, 127, 1087, 239, 1135, 487, 1255, 995, 1507, 2017, 254, 1150, 494, 1262, 998, 1510, 2018, 4064, 255, 1151, 495, 1263, 999, 1511, 2019, 4065, 510, 1278, 1006, 1518, 2022, 4066, 511, 1279, 1007, 1519, 2023, 4067, 1022, 1534, 2030, 4070, 1023, 1535, 2031, 4071, 2046, 4078, 2047, 4079, 4094, 4095, 8190, 8191, 16383, 32767, 65535] (by kernel_rfl) (by kernel_rfl) (by as_aux_lemma => kernel_rfl) (by kernel_rfl) (by kernel_rfl) (.cons .nil (.cons .nil (.cons .nil (.cons .nil (.cons .nil (.cons .nil (.cons .nil (.cons .nil (.cons .nil (.cons (oC (Z2 Gp.c u2.gc) AllP.nil) (.cons .nil (.cons .nil (.cons (oC (Zgf Gp.c u2.gc (if vg < (u2.gc.length : Int) then vg else (u2.gc.length : Int))) (oC (Zdv (c := Gp.c) h33) AllP.nil)) (.cons .nil (.cons .nil (.cons .nil .nil)))))))))))))))) ?_
  cases h; exact ⟨(by first | exact .inl rfl | exact .inr rfl), by kernel_rfl, by kernel_rfl⟩
 refine Wc.s0 [0, 2, 4, 6, 22, 56] [4, 1000000] ?_
 refine Wc.ci h (fun _ h => ?_) (fun _ h => ?_)
 ·obtain ⟨ui, h35, h⟩ := oc h fun ui h35 => (Z11 (c := Gt.c) (Gt.c_eq ui) Gt.c_len h35)
  obtain ⟨u3, h36, h⟩ := oc h fun _ => Z2l
  refine Wc.s2 [{}, {}, {}, hE h35, {}, {}, hC h36] [0, 2, 4] [4, 1000000] (o3 h35 (lenE h35 4) h36) ?_
  obtain ⟨ub, h39, h⟩ := oc h fun ub h39 => (Z11 (c := Gt.c) (Gt.c_eq ub) Gt.c_len h39)
  obtain ⟨u6v, h40, h⟩ := oc h fun _ => Z2l
  refine Wc.k2 [{}, {}, {}, hE h39, {}, {}, hC h40] [] [1000000] (o3 h39 (lenE h39 4) h40) ?_
  cases h; exact ⟨(by first | exact .inl rfl | exact .inr rfl), by kernel_rfl, by kernel_rfl⟩
 refine Wc.s0 [0, 2, 4, 6, 22, 72] [4, 1000000] ?_
 refine Wc.ci h (fun _ h => ?_) (fun _ h => ?_)
 ·obtain ⟨z3, h44, h⟩ := oc h fun z3 h44 => (Z11 (c := Gt.c) (Gt.c_eq z3) Gt.c_len h44)
  obtain ⟨v9, h45, h⟩ := oc h fun v9 h45 => (Z11 (c := Gt.c) (Gt.c_eq v9) Gt.c_len h45)
  obtain ⟨z6, h46, h⟩ := oc h fun _ => Z97
  refine Wc.dk hmix [{}, {}, {}, hE h44, {}, {}, {}, hE h45, {}, {}, hC h46] [] [] [1000000] [] (oC h44 (oC (lenE h44 4) (oC h45 (oC (lenE h45 4) (oC h46 AllP.nil))))) ?_
  cases h; exact ⟨(by first | exact .inl rfl | exact .inr rfl), by kernel_rfl, by kernel_rfl⟩
 refine Wc.s0 [0, 2, 4, 6, 22, 85] [4, 1000000] ?_
 refine Wc.ci h (fun _ h => ?_) (fun _ h => ?_)
 ·obtain ⟨zu, h51, h⟩ := oc h fun _ => Zcn
  obtain ⟨vr, h52, h⟩ := oc h fun _ => Z97
  refine Wc.dk hmix [{}, {}, hC h51, {}, hC h52] [] [] [1000000] [] (o2 h51 h52) ?_
  cases h; exact ⟨(by first | exact .inl rfl | exact .inr rfl), by kernel_rfl, by kernel_rfl⟩
 refine Wc.s0 [0, 2, 4, 6, 22, 92] [4, 1000000] ?_
 refine Wc.ci h (fun _ h => ?_) (fun _ h => ?_)
 ·obtain ⟨zv, h56, h⟩ := oc h fun zv h56 => (Z11 (c := Gt.c) (Gt.c_eq zv) Gt.c_len h56)
  obtain ⟨un, h57, h⟩ := oc h fun _ => Zcn
  have h58 := (Z1l (c := Gt.c) (x := zv) (Gt.c_eq zv) (Z1l (c := Gt.c) (x := un) (Gt.c_eq un) (Z2s Gt.c)))
  obtain ⟨vq, h59, h⟩ := oc h fun _ => Z68
  obtain ⟨ve, h60, h⟩ := oc h fun _ => Zcn
  obtain ⟨u5, h61, h⟩ := oc h fun _ => Z97
  refine Wc.dk hmix [{}, {}, {}, hE h56, {}, hC h57, hB h58, hC h59, hC h60, {}, hC h61] [] [] [1000000] [] (oC h56 (oC (lenE h56 4) (oC h57 (oC h58 (oC h59 (oC h60 (oC h61 AllP.nil))))))) ?_
  cases h; exact ⟨(by first | exact .inl rfl | exact .inr rfl), by kernel_rfl, by kernel_rfl⟩
 refine Wc.s0 [0, 2, 4, 6, 22, 105] [4, 1000000] ?_
 refine Wc.ci h (fun _ h => ?_) (fun _ h => ?_)
 ·obtain ⟨vw, h68, h⟩ := oc h fun vw h68 => (Z11 (c := Gt.c) (Gt.c_eq vw) Gt.c_len h68)
  obtain ⟨u6m, h69, h⟩ := oc h fun _ => Z2l
  refine Wc.dk hmix [{}, {}, {}, hE h68, {}, {}, {}, {}, {}, { hL u2.gc with dr := [115] }, hC h69] [] [] [1000000] [] (o4 h68 (lenE h68 4) (Z2 Gp.c u2.gc) h69) ?_
  cases h; exact ⟨(by first | exact .inl rfl | exact .inr rfl), by kernel_rfl, by kernel_rfl⟩
 refine Wc.seqJ (fun st => ∃ (u0s : Bool), st = ⟨[tP 0 1000000, tI 2 vg, tP 4 4, tS 6 z1, tS 22 z1, tB 118 u0s], [bC 4 (Gt.q vz), (1000000, .cells (Gs.k u2) (Gs.h u2))], []⟩ ∧ Z41 k u2 vz z1 vg u0s = some r) ?_ ?_
 ·refine Wc.s0 [0, 2, 4, 6, 22, 118] [4, 1000000] ?_
  refine Wc.ci h (fun _ h => ?_) (fun _ h => ?_)
  ·apply Wc.skip
   exact ⟨_, stB h⟩
  refine Wc.k0 [0, 2, 4, 6, 22, 118] [4, 1000000] ?_
  exact ⟨_, stB h⟩
 rintro st ⟨u0s, rfl, h⟩
 refine Wc.ci h (fun _ h => ?_) (fun _ h => ?_)
 ·obtain ⟨u6p, h73, h⟩ := oc h fun _ => Zg8
  refine Wc.k2 [{}, {}, {}, hC h73] [] [1000000] (o1 h73) ?_
  cases h; exact ⟨(by first | exact .inl rfl | exact .inr rfl), by kernel_rfl, by kernel_rfl⟩
 refine Wc.s0 [0, 2, 4, 6, 22, 125] [4, 1000000] ?_
 refine Wc.ci h (fun _ h => ?_) (fun _ h => ?_)
 ·obtain ⟨u0v, h76, h⟩ := oc h fun _ => Z7w
  refine Wc.s2 [{}, hC h76] [0, 2, 4, 7] [4, 128, 1000000] (o1 h76) ?_
  apply Wc.seq
  obtain ⟨u1u, h78, h⟩ := oc h fun u1u h78 => (Z11 (c := Gt.c) (Gt.c_eq u1u) Gt.c_len h78)
  obtain ⟨u1t, h79, h⟩ := oc h fun u1t h79 => (Z11 (c := Gt.c) (Gt.c_eq u1t) Gt.c_len h79)
  refine Wc.dk hmix [{}, {}, {}, {}, {}, {}, hE h78, {}, {}, {}, hE h79, {}, {}, {}, {}, {}, {}, {}, {}, {}, {}, {}, {}, {}, {}, {}, {}, {}, { op := [145] }] [] [0, 4, 7] [4, 128, 1000000] [] (oC h78 (oC (lenE h78 4) (oC h79 (oC (lenE h79 4) (oC (Gf.v_leaf u0v.1.gh) AllP.nil))))) ?_
  refine Wc.zk 128 ?_
  refine Wc.s2 [{}, {}, {}, {}, {}, {}, { op := [159] }, hM 3] [0, 4] [4, 1000000] (o1 (Gf.v_leaf u0v.1.gh)) ?_
  obtain ⟨u54, h82, h⟩ := oc h fun u54 h82 => (Z11 (c := Gt.c) (Gt.c_eq u54) Gt.c_len h82)
  obtain ⟨u6n, h83, h⟩ := oc h fun _ => Z2l
  refine Wc.dk hmix [{}, {}, {}, hE h82, {}, {}, {}, {}, {}, { hL u0v.1.gc with dr := [172] }, hC h83] [] [] [1000000] [] (o4 h82 (lenE h82 4) (Z2 Gp.c u0v.1.gc) h83) ?_
  cases h; exact ⟨(by first | exact .inl rfl | exact .inr rfl), by kernel_rfl, by kernel_rfl⟩
 refine Wc.s0 [0, 4, 6, 22, 175] [4, 1000000] ?_
 refine Wc.ci h (fun _ h => ?_) (fun _ h => ?_)
 ·obtain ⟨u8g, h87, h⟩ := oc h fun u8g h87 => (Z11 (c := Gt.c) (Gt.c_eq u8g) Gt.c_len h87)
  obtain ⟨u6u, h88, h⟩ := oc h fun _ => Z4v
  refine Wc.s2 [{}, {}, {}, hE h87, {}, hC h88] [0, 8, 9] [8, 1000000] (o3 h87 (lenE h87 4) h88) ?_
  refine Wc.s0 [0, 8, 186] [8, 1000000] ?_
  refine Wc.ci h (fun _ h => ?_) (fun _ h => ?_)
  ·obtain ⟨uq, h92, h⟩ := oc h fun _ => Zdn
   refine Wc.k2 [{}, {}, hC h92] [] [1000000] (o1 h92) ?_
   cases h; exact ⟨(by first | exact .inl rfl | exact .inr rfl), by kernel_rfl, by kernel_rfl⟩
  refine Wc.ks [] [1000000] ?_
  cases h; exact ⟨(by first | exact .inl rfl | exact .inr rfl), by kernel_rfl, by kernel_rfl⟩
 refine Wc.seqJ (fun st => ∃ (u6t : Bool), st = ⟨[tP 0 1000000, tP 4 4, tS 6 z1, tB 190 u6t], [bC 4 (Gt.q vz), (1000000, .cells (Gs.k u2) (Gs.h u2))], []⟩ ∧ Z37 k u2 z1 vz u6t = some r) ?_ ?_
 ·refine Wc.s0 [0, 4, 6, 22, 190] [4, 1000000] ?_
  refine Wc.ci h (fun _ h => ?_) (fun _ h => ?_)
  ·refine Wc.ks [0, 4, 6, 190] [4, 1000000] ?_
   exact ⟨_, stB h⟩
  refine Wc.s0 [0, 4, 6, 22, 190] [4, 1000000] ?_
  refine Wc.ci h (fun _ h => ?_) (fun _ h => ?_)
  ·refine Wc.ks [0, 4, 6, 190] [4, 1000000] ?_
   exact ⟨_, stB h⟩
  refine Wc.k0 [0, 4, 6, 190] [4, 1000000] ?_
  exact ⟨_, stB h⟩
 rintro st ⟨u6t, rfl, h⟩
 refine Wc.ci h (fun _ h => ?_) (fun _ h => ?_)
 ·obtain ⟨u6a, h95, h⟩ := oc h fun _ => Z1a
  refine Wc.k2 [{}, {}, hC h95] [] [1000000] (o1 h95) ?_
  cases h; exact ⟨(by first | exact .inl rfl | exact .inr rfl), by kernel_rfl, by kernel_rfl⟩
 obtain ⟨u6c, h97, h⟩ := oc h fun _ => Zm3
 refine Wc.s2 [{}, hC h97] [0, 4, 6, 24] [4, 1000000] (o1 h97) ?_
 refine Wc.ci h (fun _ h => ?_) (fun _ h => ?_)
 ·obtain ⟨uao, h100, h⟩ := oc h fun _ => Zkd
  refine Wc.k2 [{}, {}, {}, hC h100] [] [1000000] (o1 h100) ?_
  cases h; exact ⟨(by first | exact .inl rfl | exact .inr rfl), by kernel_rfl, by kernel_rfl⟩
 obtain ⟨zj, h102, h⟩ := oc h fun _ => Zg7
 refine Wc.k2 [{}, {}, {}, hC h102] [] [1000000] (o1 h102) ?_
 cases h; exact ⟨(by first | exact .inl rfl | exact .inr rfl), by kernel_rfl, by kernel_rfl⟩

def Z1 (k : Nat) (uh : Gt) : Nat → Gs → Option (Out Gs Gs)
 | 0, _ => none
 | m + 1, u8 =>
  if (!u8.gv) = true then
   if u8.gh.isNil = true then
    (Z3q k u8 uh).bind fun v1 =>
    Z1 k uh m v1
   else
    if u8.gh.isNil = false then
     if (u8.gh.gi == 2) = true then
      if u8.gh.isNil = false then
       if 0 ≤ (if u8.gh.gK < (u8.gc.length : Int) then u8.gh.gK else (u8.gc.length : Int)) ∧ (if u8.gh.gK < (u8.gc.length : Int) then u8.gh.gK else (u8.gc.length : Int)) ≤ (u8.gc.length : Int) then
        if u8.gh.isNil = false then
         Z1 k uh m (Gs.mk u8.gDb u8.gU u8.gk u8.gl u8.gw u8.gh.gP (u8.gc.take ((if u8.gh.gK < (u8.gc.length : Int) then u8.gh.gK else (u8.gc.length : Int))).toNat) u8.gf u8.gv)
        else none
       else none
      else none
     else
      if u8.gh.isNil = false then
       if (u8.gh.gi == 3) = true then
        if u8.gh.isNil = false then
         Z1 k uh m (Gs.mk u8.gDb u8.gU u8.gk u8.gl u8.gw u8.gh.gP u8.gc u8.gf u8.gv)
        else none
       else
        if (u8.gl == u8.gw) = true then
         (Z1g k u8 1).bind fun u6v =>
         Z1 k uh m u6v
        else
         if u8.gh.isNil = false then
          if u8.gh.isNil = false then
           (Z1y k u8.gU.ge (Gt.mk u8.gh.gR.gi u8.gh.gR.gn u8.gh.gR.gj u8.gh.gR.ga)).bind fun u98 =>
           if u8.gh.isNil = false then
            (Z16 k (Gs.mk u8.gDb (Gu.mk u98.1 u8.gU.gd u8.gU.gu) u8.gk (wr.i64 (u8.gl + 1)) u8.gw u8.gh.gP u8.gc u8.gf u8.gv) u98.2 u8.gh.gK).bind fun v8 =>
            Z1 k uh m v8
           else none
          else none
         else none
      else none
    else none
  else
   some (.done u8)
def Z62 (k : Nat) (u0 : Gs) (uh : Gt) : Option Gs :=
 (Z1 k uh k u0).bind fun out1 => match out1 with
 | .ret r => some r
 | .done u3 =>
  some u3
set_option maxHeartbeats 4000000 in
theorem Zkc {k : Nat} {u0 : Gs} {uh : Gt} {r : Gs} (h : Z62 k u0 uh = some r) : FnO Tryz.prog 18 [.p (Gs.k u0) (Gs.h u0), .v (.agg (Gt.q uh)) []] (.v (.tup []) []) [(0, .p (Gs.k r) (Gs.h r))] := by
 refine FnO.o2 Tryz.func18 rfl fun _ _ _ _ _ _ => ?_
 unfold Z62 at h
 refine Wc.s0 [0, 3] [3, 1000000] ?_
 obtain ⟨out1, h16, h⟩ := Z2d h
 refine Wc.lastJ (fun st => ∃ (u3 : Gs), out1 = .done u3 ∧ st = ⟨[], [(1000000, .cells (Gs.k u3) (Gs.h u3))], []⟩) ?_ ?_
 ·apply Wc.block
  refine Wc.loop (fun m st => ∃ (u8 : Gs), st = ⟨[tP 0 1000000, tP 3 3], [bC 3 (Gt.q uh), (1000000, .cells (Gs.k u8) (Gs.h u8))], []⟩ ∧ Z1 k uh m u8 = some out1) ?_ k ⟨_, stB h16⟩
  rintro m st ⟨u8, rfl, h16⟩
  rcases m with _ | m
  ·exact (Zk h16).elim
  apply Wc.seq
  refine Wc.s0 [0, 3, 9] [3, 1000000] ?_
  refine Wc.ci h16 (fun _ h16 => ?_) (fun _ h16 => ?_)
  ·refine Wc.ks [0, 3] [3, 1000000] ?_
   apply Wc.block
   refine Wc.s0 [0, 3, 4] [3, 1000000] ?_
   apply Wc.block
   refine Wc.s2 [{}, { v := some (.bool (u8.gh.isNil)) }] [0, 3, 4, 44] [3, 1000000] (o1 (Gf.nil_ok u8.gh)) ?_
   refine Wc.ci h16 (fun _ h16 => ?_) (fun _ h16 => ?_)
   ·obtain ⟨v1, h19, h16⟩ := oc h16 fun _ => Zi6
    refine Wc.k2 [{}, {}, hC h19] [0, 3] [3, 1000000] (o1 h19) ?_
    exact ⟨_, Nat.lt_succ_self _, _, stB h16⟩
   obtain ⟨h21, h16⟩ := Z4 h16
   refine Wc.s2 [{}, { v := some (.vptr (Gf.cs u8.gh)) }] [0, 3, 4, 50] [3, 1000000] (o2 (Gf.v_ok h21) (Gf.len u8.gh 0 1)) ?_
   refine Wc.ci h16 (fun _ h16 => ?_) (fun _ h16 => ?_)
   ·apply Wc.seq
    obtain ⟨h23, h16⟩ := Z4 h16
    obtain ⟨h24, h16⟩ := Z4 h16
    refine Wc.meet hmix [{}, {}, {}, {}, {}, {}, {}, {}, {}, hL u8.gc, {}, { v := some (.vptr (Gf.cs u8.gh)) }, {}, {}, {}, { c := some (List.map Gp.c (u8.gc.take ((if u8.gh.gK < (u8.gc.length : Int) then u8.gh.gK else (u8.gc.length : Int))).toNat)), tk := [60], fx := [.pl 60] }, {}, {}, hK [71]] [] [] [0, 3, 4, 50, 56, 57, 58, 59, 60, 61, 62, 63, 64, 65, 66, 67, 68, 69, 70, 71, 72, 73] [3, 1000000] [] [.so 1000000] [0, 3, 4] [3, 1000000] [] ⟨[tP 0 1000000, tP 3 3, tV 4 (Gf.v u8.gh)], [bC 3 (Gt.q uh), (1000000, .cells (Gs.k u8) [(2, .ex 31 false (List.map Gt.c u8.gU.ge)), (3, .ex 3 false (List.map cI.i64 u8.gU.gd)), (9, .ex 78 false (List.map Gp.c (u8.gc.take ((if u8.gh.gK < (u8.gc.length : Int) then u8.gh.gK else (u8.gc.length : Int))).toNat))), (10, .ex 31 false (List.map Gt.c u8.gf.gp))])], []⟩ _ [0, 1, 2, 32, 1024, 3, 33, 1025, 6, 34, 1026, 96, 1056, 3072, 7, 35, 1027, 97, 1057, 3073, 14, 38, 1030, 98, 1058, 3074, 224, 1120, 3104, 7168, 15, 39, 1031, 99, 1059, 3075, 225, 1121, 3105, 7169, 30, 46, 1038, 102, 1062, 3078, 226, 1122, 3106, 7170, 480, 1248, 3168, 7200, 15360, 31, 47, 1039, 103, 1063, 3079, 227, 1123, 3107, 7171, 481, 1249, 3169, 7201, 15361, 62, 1054, 110, 1070, 3086, 230, 1126, 3110, 7174, 482, 1250, 3170, 7202, 15362, 992, 1504, 3296, 7264, 15392, 63, 1055, 111, 1071, 3087, 231, 1127, 3111, 7175, 483, 1251, 3171, 7203, 15363, 993, 1505, 3297, 7265, 15393, 126, 1086, 3102, 238, 1134, 3118, 7182, 486, 1254, 3174, 7206, 15366, 994, 1506, 3298, 7266, 15394, 2016, 3552, 7392, 15456, 127, 1087, 3103, 239, 1135, 3119, 7183, 487, 1255, 3175, 7207, 15367, 995, 1507, 3299, 7267, 15395, 2017, 3553, 7393, 15457, 254, 1150, 3134, 7198, 494, 1262, 3182, 7214, 15374, 998, 1510, 3302, 7270, 15398, 2018, 3554, 7394, 15458, 4064, 7648, 15584, 255, 1151, 3135, 7199, 495, 1263, 3183, 7215, 15375, 999, 1511, 3303, 7271, 15399, 2019, 3555, 7395, 15459, 4065, 7649, 15585, 510, 1278, 3198, 7230, 15390, 1006, 1518, 3310, 7278, 15406, 2022, 3558, 7398, 15462, 4066, 7650, 15586, 8160, 15840, 511, 1279, 3199, 7231, 15391, 1007, 1519, 3311, 7279, 15407, 2023, 3559, 7399, 15463, 4067, 7651, 15587, 8161, 15841, 1022, 1534, 3326, 7294, 15422, 2030, 3566, 7406, 15470, 4070, 7654, 15590, 8162, 15842, 16352, 1023, 1535, 3327, 7295, 15423, 2031, 3567, 7407, 15471, 4071, 7655, 15591, 8163, 15843, 16353, 2046, 3582, 7422, 15486, 4078, 7662, 15598, 8166, 15846, 16354, 32736, 2047, 3583, 7423, 15487, 4079, 7663, 15599, 8167, 15847, 16355, 32737, 4094, 7678, 15614, 8174, 15854, 16358, 32738, 4095, 7679, 15615, 8175, 15855, 16359, 32739, 8190, 15870, 16366, 32742, 8191, 15871, 16367, 32743, 16382, 32750, 16383, 32751, 32766, 32767, 65534, 65535, 131071, 262143, 524287] (by kernel_rfl) (by kernel_rfl) (by as_aux_lemma => kernel_rfl) (by kernel_rfl) (by kernel_rfl) (.cons .nil (.cons .nil (.cons .nil (.cons .nil (.cons .nil (.cons .nil (.cons .nil (.cons .nil (.cons .nil (.cons (oC (Z2 Gp.c u8.gc) AllP.nil) (.cons .nil (.cons (oC (Gf.v_ok h23) AllP.nil) (.cons .nil (.cons (oC (Gf.len u8.gh 5 1) AllP.nil) (.cons .nil (.cons (oC (Zgf Gp.c u8.gc (if u8.gh.gK < (u8.gc.length : Int) then u8.gh.gK else (u8.gc.length : Int))) (oC (Zdv (c := Gp.c) h24) AllP.nil)) (.cons .nil (.cons .nil (.cons .nil .nil))))))))))))))))))) ?_
    obtain ⟨h25, h16⟩ := Z4 h16
    refine Wc.k2 [{}, {}, { v := some (.vptr (Gf.cs u8.gh)) }, {}, {}, {}, {}, { op := [78] }] [0, 3] [3, 1000000] (o3 (Gf.v_ok h25) (Gf.len u8.gh 7 1) (Gf.v_leaf u8.gh.gP)) ?_
    exact ⟨_, Nat.lt_succ_self _, _, stB h16⟩
   obtain ⟨h26, h16⟩ := Z4 h16
   refine Wc.s2 [{}, { v := some (.vptr (Gf.cs u8.gh)) }] [0, 3, 4, 81] [3, 1000000] (o2 (Gf.v_ok h26) (Gf.len u8.gh 0 1)) ?_
   refine Wc.ci h16 (fun _ h16 => ?_) (fun _ h16 => ?_)
   ·obtain ⟨h28, h16⟩ := Z4 h16
    refine Wc.k2 [{}, {}, { v := some (.vptr (Gf.cs u8.gh)) }, {}, {}, {}, {}, { op := [91] }] [0, 3] [3, 1000000] (o3 (Gf.v_ok h28) (Gf.len u8.gh 7 1) (Gf.v_leaf u8.gh.gP)) ?_
    exact ⟨_, Nat.lt_succ_self _, _, stB h16⟩
   apply Wc.seq
   refine Wc.dk hmix [] [] [0, 3, 4, 94] [3, 1000000] [] (AllP.nil) ?_
   refine Wc.ci h16 (fun _ h16 => ?_) (fun _ h16 => ?_)
   ·obtain ⟨u6v, h30, h16⟩ := oc h16 fun _ => Z2a
    refine Wc.k2 [{}, hC h30] [0, 3] [3, 1000000] (o1 h30) ?_
    exact ⟨_, Nat.lt_succ_self _, _, stB h16⟩
   refine Wc.s0 [0, 3, 4] [3, 1000000] ?_
   obtain ⟨h32, h16⟩ := Z4 h16
   refine Wc.s2 [{}, {}, { v := some (.vptr (Gf.cs u8.gh)) }, {}, {}, {}, {}, { op := [25] }] [0, 3, 4] [3, 1000000] (o3 (Gf.v_ok h32) (Gf.len u8.gh 7 1) (Gf.v_leaf u8.gh.gP)) ?_
   obtain ⟨h33, h16⟩ := Z4 h16
   obtain ⟨u98, h34, h16⟩ := oc h16 fun _ => Z5i
   obtain ⟨h35, h16⟩ := Z4 h16
   obtain ⟨v8, h36, h16⟩ := oc h16 fun _ => Zl3
   refine Wc.meet hmix [{}, {}, {}, {}, {}, {}, {}, { v := some (.vptr (Gf.cs u8.gh)) }, {}, {}, { hC h34 with io := [0] }, {}, { v := some (.vptr (Gf.cs u8.gh)) }, {}, {}, hC h36] [] [] [0, 3, 4, 28, 29, 30, 31, 32, 33, 34, 35, 36, 37, 38, 39, 40, 41, 42, 43] [3, 1000000] [] [] [0, 3] [3, 1000000] [] ⟨[tP 0 1000000, tP 3 3], [bC 3 (Gt.q uh), (1000000, .cells (Gs.k v8) (Gs.h v8))], []⟩ _ [0, 1, 2, 64, 2048, 3, 65, 2049, 6, 66, 2050, 192, 2112, 6144, 7, 67, 2051, 193, 2113, 6145, 14, 70, 2054, 194, 2114, 6146, 448, 2240, 6208, 14336, 15, 71, 2055, 195, 2115, 6147, 449, 2241, 6209, 14337, 30, 78, 2062, 198, 2118, 6150, 450, 2242, 6210, 14338, 960, 2496, 6336, 14400, 30720, 31, 79, 2063, 199, 2119, 6151, 451, 2243, 6211, 14339, 961, 2497, 6337, 14401, 30721, 62, 94, 2078, 206, 2126, 6158, 454, 2246, 6214, 14342, 962, 2498, 6338, 14402, 30722, 3008, 6592, 14528, 30784, 63, 95, 2079, 207, 2127, 6159, 455, 2247, 6215, 14343, 963, 2499, 6339, 14403, 30723, 3009, 6593, 14529, 30785, 126, 2110, 222, 2142, 6174, 462, 2254, 6222, 14350, 966, 2502, 6342, 14406, 30726, 3010, 6594, 14530, 30786, 7104, 14784, 30912, 127, 2111, 223, 2143, 6175, 463, 2255, 6223, 14351, 967, 2503, 6343, 14407, 30727, 3011, 6595, 14531, 30787, 7105, 14785, 30913, 254, 2174, 6206, 478, 2270, 6238, 14366, 974, 2510, 6350, 14414, 30734, 3014, 6598, 14534, 30790, 7106, 14786, 30914, 15296, 31168, 255, 2175, 6207, 479, 2271, 6239, 14367, 975, 2511, 6351, 14415, 30735, 3015, 6599, 14535, 30791, 7107, 14787, 30915, 15297, 31169, 510, 2302, 6270, 14398, 990, 2526, 6366, 14430, 30750, 3022, 6606, 14542, 30798, 7110, 14790, 30918, 15298, 31170, 31680, 511, 2303, 6271, 14399, 991, 2527, 6367, 14431, 30751, 3023, 6607, 14543, 30799, 7111, 14791, 30919, 15299, 31171, 31681, 1022, 2558, 6398, 14462, 30782, 3038, 6622, 14558, 30814, 7118, 14798, 30926, 15302, 31174, 31682, 1023, 2559, 6399, 14463, 30783, 3039, 6623, 14559, 30815, 7119, 14799, 30927, 15303, 31175, 31683, 2046, 3070, 6654, 14590, 30846, 7134, 14814, 30942, 15310, 31182, 31686, 2047, 3071, 6655, 14591, 30847, 7135, 14815, 30943, 15311, 31183, 31687, 4094, 7166, 14846, 30974, 15326, 31198, 31694, 4095, 7167, 14847, 30975, 15327, 31199, 31695, 8190, 15358, 31230, 31710, 8191, 15359, 31231, 31711, 16382, 31742, 16383, 31743, 32766, 32767, 65535] (by kernel_rfl) (by kernel_rfl) (by as_aux_lemma => kernel_rfl) (by kernel_rfl) (by kernel_rfl) (.cons .nil (.cons .nil (.cons .nil (.cons .nil (.cons .nil (.cons .nil (.cons .nil (.cons (oC (Gf.v_ok h33) AllP.nil) (.cons .nil (.cons (oC (Gf.len u8.gh 1 4) AllP.nil) (.cons (oC h34 AllP.nil) (.cons .nil (.cons (oC (Gf.v_ok h35) AllP.nil) (.cons .nil (.cons (oC (Gf.len u8.gh 5 1) AllP.nil) (.cons (oC h36 AllP.nil) .nil)))))))))))))))) ?_
   exact ⟨_, Nat.lt_succ_self _, _, stB h16⟩
  refine Wc.ke [] [1000000] ?_
  cases h16; exact ⟨_, rfl, by kernel_rfl⟩
 rintro st ⟨u3, rfl, rfl⟩
 cases h; exact ⟨(by first | exact .inl rfl | exact .inr rfl), by kernel_rfl, by kernel_rfl⟩

def Z52 (k : Nat) (u2u : List Gt) : Nat → (List Gt) → Int → Option (Out (List Gt) (List Gt))
 | 0, _, _ => none
 | m + 1, u4z, uy =>
  if (decide (uy < (u2u.length : Int))) = true then
   (at' u2u uy).bind fun z3 =>
   (Z4m k z3).bind fun v9 =>
   if u4z.length + [v9].length ≤ 1073741824 then
    Z52 k u2u m (u4z ++ [v9]) (wr.i64 (uy + 1))
   else none
  else
   some (.done u4z)
def Z5q (k : Nat) (u2u : List Gt) : Option (List Gt) :=
 (Z52 k u2u k [] 0).bind fun out1 => match out1 with
 | .ret r => some r
 | .done u6w =>
  some u6w
theorem Zl4 {k : Nat} {u2u : List Gt} {r : (List Gt)} (h : Z5q k u2u = some r) : FnO Tryz.prog 19 [.v (.sl (List.map Gt.c u2u)) []] (.v (.slx) [(0, .ex 31 true (List.map Gt.c r))]) [] := by
 refine FnO.o2 Tryz.func19 rfl fun _ _ _ _ _ _ => ?_
 unfold Z5q at h
 refine Wc.s0 [0] [] ?_
 refine Wc.s0 [0, 3] [] ?_
 apply Wc.seq
 refine Wc.s2 [{}, hL u2u] [3, 6, 7, 8] [] (o1 (Z2 Gt.c u2u)) ?_
 obtain ⟨out1, h14, h⟩ := Z2d h
 refine Wc.lastJ (fun st => ∃ (u6w : List Gt), out1 = .done u6w ∧ st = ⟨[(3, (.v (.slx), [(0, .ex 31 true (List.map Gt.c u6w))]))], [], []⟩) ?_ ?_
 ·apply Wc.block
  refine Wc.fk [.ow (.t 3 0) true] [3, 6, 7, 8] [] [] ?_
  refine Wc.loop (fun m st => ∃ (u4z : List Gt) (uy : Int), st = ⟨[(3, (.v (.slx), [(0, .ex 31 true (List.map Gt.c u4z))])), tV 6 (.sl (List.map Gt.c u2u)), tI 7 (u2u.length : Int), tI 8 uy], [], []⟩ ∧ Z52 k u2u m u4z uy = some out1) ?_ k ⟨_, _, stB h14⟩
  rintro m st ⟨u4z, uy, rfl, h14⟩
  rcases m with _ | m
  ·exact (Zk h14).elim
  refine Wc.s0 [3, 6, 7, 8, 9] [] ?_
  apply Wc.seq
  refine Wc.ci h14 (fun _ h14 => ?_) (fun _ h14 => ?_)
  ·refine Wc.ks [3, 6, 7, 8] [] ?_
   apply Wc.seq
   apply Wc.block
   obtain ⟨z3, h16, h14⟩ := oc h14 fun z3 h16 => (Z11 (c := Gt.c) (Gt.c_eq z3) Gt.c_len h16)
   refine Wc.s2 [hE h16] [3, 5, 6, 7, 8] [5] (o2 h16 (lenE h16 4)) ?_
   obtain ⟨v9, h18, h14⟩ := oc h14 fun _ => Z9l
   have h19 := (Z1l (c := Gt.c) (x := v9) (Gt.c_eq v9) (Z2s Gt.c))
   obtain ⟨h20, h14⟩ := Z4 h14
   have h21 := (Z30 Gt.c u4z [v9])
   refine Wc.k2 [hK [3], {}, hC h18, { hB h19 with tk := [14], md := 2 }, { hB h21 with tk := [12, 15], md := 2 }, hK [16]] [3, 6, 7, 8] [] (oC h18 (oC h19 (oAn h21 Gt.c_len h20 AllP.nil))) ?_
   refine Wc.k0 [3, 6, 7, 8] [] ?_
   exact ⟨_, Nat.lt_succ_self _, _, _, stB h14⟩
  refine Wc.ke [3] [] ?_
  cases h14; exact ⟨_, rfl, by kernel_rfl⟩
 rintro st ⟨u6w, rfl, rfl⟩
 refine Wc.s1 [hK [3], hK [18]] [2] [] ?_
 cases h; exact Wc.ret dn

def Zfm (k : Nat) (u01 : List Int) : Option Bool :=
 some (decide ((u01.length : Int) > 1048576))
theorem Zwc {k : Nat} {u01 : List Int} {r : Bool} (h : Zfm k u01 = some r) : FnO Tryz.prog 4 [.v (.sl (List.map cI.u8 u01)) []] (.v (.bool r) []) [] := by
 refine FnO.o2 Tryz.func4 rfl fun _ _ _ _ _ _ => ?_
 unfold Zfm at h
 refine Wc.s0 [0] [] ?_
 refine Wc.s2 [{}, hL u01] [2] [] (o1 (Z2 cI.u8 u01)) ?_
 cases h; exact Wc.ret dn

def Zdf (k : Nat) (u8h : List Int) : Option Gd :=
 (Zbk k u8h).bind fun uaq =>
 (Zid k uaq).bind fun uar =>
 some uar.2
theorem Zws {k : Nat} {u8h : List Int} {r : Gd} (h : Zdf k u8h = some r) : FnO Tryz.prog 5 [.v (.sl (List.map cI.u8 u8h)) []] (.v (.agg (Gd.q r)) [(0, .app 63), (1, .app 9)]) [] := by
 refine FnO.o2 Tryz.func5 rfl fun _ _ _ _ _ _ => ?_
 unfold Zdf at h
 refine Wc.s0 [0, 2] [2] ?_
 obtain ⟨uaq, h8, h⟩ := oc h fun _ => Zpl
 obtain ⟨uar, h9, h⟩ := oc h fun _ => Zym
 refine Wc.s2 [{}, hC h8, hC h9, hK [5]] [2] [2] (o2 h8 h9) ?_
 cases h; exact Wc.ret dn

def Zae (k : Nat) (u8i : List Int) : Option Gt :=
 (Zbk k u8i).bind fun u53 =>
 (Zfr k u53).bind fun uas =>
 some uas.2
theorem Zrb {k : Nat} {u8i : List Int} {r : Gt} (h : Zae k u8i = some r) : FnO Tryz.prog 6 [.v (.sl (List.map cI.u8 u8i)) []] (.v (.agg (Gt.q r)) []) [] := by
 refine FnO.o2 Tryz.func6 rfl fun _ _ _ _ _ _ => ?_
 unfold Zae at h
 refine Wc.s0 [0, 2] [2] ?_
 obtain ⟨u53, h6, h⟩ := oc h fun _ => Zpl
 obtain ⟨uas, h7, h⟩ := oc h fun _ => Zwl
 refine Wc.s2 [{}, hC h6, hC h7] [2] [2] (o2 h6 h7) ?_
 cases h; exact Wc.ret dn

def Z7f (k : Nat) (zk : Gs) : Option Gw :=
 (Z5b k zk.gDb).bind fun uat =>
 (Z5q k zk.gf.gp).bind fun uau =>
 (Z4m k zk.gf.gx).bind fun uh =>
 some (Gw.mk uau zk.gf.gz uh zk.gf.gf uat zk.gl)
def Zbi (k : Nat) (u4j : Gd) (zi : Int) (vv : Gt) (u1a : Bool) : Option Gw :=
 if u1a = true then
  (Z1g k (Gs.mk u4j (Gu.mk [] [] 0) 0 0 (if 2000 < (if 0 > zi then 0 else zi) then 2000 else (if 0 > zi then 0 else zi)) Gf.nil [] (Gw.mk [] 0 (Gt.mk 0 (bs []) 0 []) (bs []) (Gd.mk [] []) 0) false) 1).bind fun u3 =>
  Z7f k u3
 else
  (Z2v k [vv]).bind fun uy =>
  (Z20 k (Gs.mk u4j (Gu.mk [] [] 0) 0 0 (if 2000 < (if 0 > zi then 0 else zi) then 2000 else (if 0 > zi then 0 else zi)) Gf.nil [] (Gw.mk [] 0 (Gt.mk 0 (bs []) 0 []) (bs []) (Gd.mk [] []) 0) false) uy).bind fun u8j =>
  if (!u8j.2) = true then
   (Z1g k u8j.1 1).bind fun ul =>
   Z7f k ul
  else
   (Z1q k u8j.1 vv 0).bind fun v8 =>
   (Z62 k v8 vv).bind fun z6 =>
   Z7f k z6
def Zcu (k : Nat) (vm : Gd) (vv : Gt) (zi : Int) : Option Gw :=
 (Z5b k vm).bind fun u4j =>
 (Zgl k vm).bind fun u3g =>
 if (!u3g) = true then
  Zbi k u4j zi vv true
 else
  (Z3u k vv).bind fun u1n =>
  Zbi k u4j zi vv (!u1n)
theorem Zwk {k : Nat} {vm : Gd} {vv : Gt} {zi : Int} {r : Gw} (h : Zcu k vm vv zi = some r) : FnO Tryz.prog 7 [.v (.agg (Gd.q vm)) [], .v (.agg (Gt.q vv)) [], .v (aI zi) []] (.v (.agg (Gw.q r)) []) [] := by
 refine FnO.o2 Tryz.func7 rfl fun _ _ _ _ _ _ => ?_
 unfold Zcu at h
 refine Wc.s0 [2, 3, 4, 6] [3, 4, 6] ?_
 obtain ⟨u4j, h8, h⟩ := oc h fun _ => Zcm
 refine Wc.s3 [{}, hC h8, {}, {}, {}, hK [9], hK [13]] [.so 14] [3, 4, 6, 7] [3, 4, 6, 14] [] (o1 h8) ?_
 refine Wc.seqJ (fun st => ∃ (zk : Gs), st = ⟨[tP 6 6, tP 7 14], [(6, .cells [.sl (List.map Gt.c []), aI 0, aI 0, .str (bs []), aI 0, .sl (List.map Gt.c []), .str (bs []), .sl (List.map Gc.c []), .sl (List.map cS []), aI 0] [(0, .app 31), (5, .app 31), (7, .app 63), (8, .app 9)]), (14, .cells (Gs.k zk) (Gs.h zk))], []⟩ ∧ Z7f k zk = some r) ?_ ?_
 ·apply Wc.block
  refine Wc.seqJ (fun st => ∃ (u1a : Bool), st = ⟨[tP 4 4, tP 6 6, tP 7 14, tB 21 u1a], [bC 4 (Gt.q vv), (6, .cells [.sl (List.map Gt.c []), aI 0, aI 0, .str (bs []), aI 0, .sl (List.map Gt.c []), .str (bs []), .sl (List.map Gc.c []), .sl (List.map cS []), aI 0] [(0, .app 31), (5, .app 31), (7, .app 63), (8, .app 9)]), (14, .cells [.slx, .slx, .slx, .slx, aI 0, aI 0, aI 0, aI (if 2000 < (if 0 > zi then 0 else zi) then 2000 else (if 0 > zi then 0 else zi)), Gf.v Gf.nil, .slx, .slx, aI 0, aI 0, .str (bs []), aI 0, .slx, .str (bs []), .slx, .slx, aI 0, .bool false] [(0, .ex 63 true (List.map Gc.c u4j.gq)), (1, .ex 9 true (List.map cS u4j.gy)), (2, .ex 31 true (List.map Gt.c [])), (3, .ex 3 true (List.map cI.i64 [])), (9, .ex 78 true (List.map Gp.c [])), (10, .ex 31 true (List.map Gt.c [])), (15, .ex 31 true (List.map Gt.c [])), (17, .ex 63 true (List.map Gc.c [])), (18, .ex 9 true (List.map cS []))])], []⟩ ∧ Zbi k u4j zi vv u1a = some r) ?_ ?_
  ·obtain ⟨u3g, h31, h⟩ := oc h fun _ => Zwj
   rcases oif h with ⟨h32, h⟩ | ⟨h32, h⟩
   ·refine Wc.k3 [{}, hC h31, {}, rT] [.ow (.b 14 2) true, .ow (.b 14 3) true, .ow (.b 14 9) true, .ow (.b 14 10) true, .ow (.b 14 15) true, .ow (.b 14 17) true, .ow (.b 14 18) true] [4, 6, 7, 21] [4, 6, 14] [] (o2 h31 (cb h32)) ?_
    exact ⟨_, stB h⟩
   obtain ⟨u1n, h33, h⟩ := oc h fun _ => Z6a
   refine Wc.k3 [{}, hC h31, {}, rF, {}, hC h33] [.ow (.b 14 2) true, .ow (.b 14 3) true, .ow (.b 14 9) true, .ow (.b 14 10) true, .ow (.b 14 15) true, .ow (.b 14 17) true, .ow (.b 14 18) true] [4, 6, 7, 21] [4, 6, 14] [] (o3 h31 (cb h32) h33) ?_
   exact ⟨_, stB h⟩
  rintro st ⟨u1a, rfl, h⟩
  refine Wc.ci h (fun _ h => ?_) (fun _ h => ?_)
  ·obtain ⟨u3, h17, h⟩ := oc h fun _ => Z2a
   refine Wc.k2 [{}, { hC h17 with fx := [.ag (.b 14 0), .sh (.b 14 0), .ag (.b 14 1), .sh (.b 14 1), .ag (.b 14 2), .ag (.b 14 3), .ag (.b 14 9), .ag (.b 14 10), .ag (.b 14 15), .sh (.b 14 15), .ag (.b 14 17), .sh (.b 14 17), .ag (.b 14 18), .sh (.b 14 18)] }] [6, 7] [6, 14] (o1 h17) ?_
   exact ⟨_, stB h⟩
  have h19 := (Z1l (c := Gt.c) (x := vv) (Gt.c_eq vv) (Z2s Gt.c))
  obtain ⟨uy, h20, h⟩ := oc h fun _ => Zez
  obtain ⟨u8j, h21, h⟩ := oc h fun _ => Z6g
  refine Wc.s2 [{}, {}, hB h19, hC h20, { hC h21 with fx := [.ag (.b 14 0), .sh (.b 14 0), .ag (.b 14 1), .sh (.b 14 1), .ag (.b 14 2), .ag (.b 14 3), .ag (.b 14 9), .ag (.b 14 10), .ag (.b 14 15), .sh (.b 14 15), .ag (.b 14 17), .sh (.b 14 17), .ag (.b 14 18), .sh (.b 14 18)] }] [4, 6, 7, 32] [4, 6, 14] (o3 h19 h20 h21) ?_
  refine Wc.ci h (fun _ h => ?_) (fun _ h => ?_)
  ·obtain ⟨ul, h25, h⟩ := oc h fun _ => Z2a
   refine Wc.k2 [{}, hC h25] [6, 7] [6, 14] (o1 h25) ?_
   exact ⟨_, stB h⟩
  obtain ⟨v8, h27, h⟩ := oc h fun _ => Z2l
  refine Wc.s2 [{}, {}, hC h27] [4, 6, 7] [4, 6, 14] (o1 h27) ?_
  obtain ⟨z6, h29, h⟩ := oc h fun _ => Zkc
  refine Wc.k2 [{}, {}, hC h29] [6, 7] [6, 14] (o1 h29) ?_
  exact ⟨_, stB h⟩
 rintro st ⟨zk, rfl, h⟩
 refine Wc.s0 [6, 7] [6, 14] ?_
 obtain ⟨uat, h10, h⟩ := oc h fun _ => Zcm
 refine Wc.s2 [{}, {}, {}, {}, {}, hC h10, {}, {}, {}, hK [54]] [6, 7] [6, 14] (o1 h10) ?_
 obtain ⟨uau, h12, h⟩ := oc h fun _ => Zl4
 refine Wc.s3 [{}, {}, {}, {}, {}, {}, hC h12, {}, {}, {}, hK [64]] [.so 14] [6, 7] [6, 14] [] (o1 h12) ?_
 obtain ⟨uh, h14, h⟩ := oc h fun _ => Z9l
 refine Wc.s3 [{}, {}, {}, {}, {}, {}, hC h14, {}, {}, {}, hK [74]] [.so 14] [6, 7] [6, 14] [] (o1 h14) ?_
 refine Wc.s1 [{}, {}, {}, hM 1, hK [81]] [6] [6] ?_
 refine Wc.fk [.sh (.b 6 0), .sh (.b 6 5), .sh (.b 6 7), .sh (.b 6 8)] [6] [6] [] ?_
 cases h; exact Wc.ret dn

def Z32 (k : Nat) (u1o : Gw) (u1p : Gw) (u3t : Gw) (u2h : Bool) : Option Bool :=
 if u2h = true then
  if (decide (u1o.gl ≤ 200)) = true then
   some (decide (u1p.gl ≤ 400))
  else
   some false
 else
  if (!((decide ((u1o.gp.length : Int) > 0)) == (decide ((u1p.gp.length : Int) > 0)))) = true then
   if (u3t.gz != 0) = true then
    some true
   else
    some ((u3t.gp.length : Int) == 0)
  else
   some false
def Z9e (k : Nat) (u5p : List Int) : Option Bool :=
 (Zfm k u5p).bind fun uav =>
 if uav = true then
  some true
 else
  (Zdf k u5p).bind fun u8k =>
  (Zae k u5p).bind fun z4 =>
  (Zcu k u8k z4 200).bind fun u1o =>
  (Zcu k u8k (Gt.mk 4 (bs [92, 43]) 0 [z4]) 400).bind fun u1p =>
  (Zcu k u8k (Gt.mk 4 (bs [44]) 0 [z4, Gt.mk 2 (bs [102, 97, 105, 108]) 0 []]) 400).bind fun u3t =>
  if (u1o.gz != 0) = true then
   if (u1o.gz != 3) = true then
    Z32 k u1o u1p u3t true
   else
    Z32 k u1o u1p u3t (u1p.gz != 0)
  else
   Z32 k u1o u1p u3t (u1p.gz != 0)
theorem Zni {k : Nat} {u5p : List Int} {r : Bool} (h : Z9e k u5p = some r) : FnO Tryz.prog 3 [.v (.sl (List.map cI.u8 u5p)) []] (.v (.bool r) []) [] := by
 refine FnO.o2 Tryz.func3 rfl fun _ _ _ _ _ _ => ?_
 unfold Z9e at h
 refine Wc.s0 [0] [] ?_
 apply Wc.seq
 obtain ⟨uav, h1, h⟩ := oc h fun _ => Zwc
 refine Wc.s2 [{}, hC h1] [0, 9] [] (o1 h1) ?_
 refine Wc.ci h (fun _ h => ?_) (fun _ h => ?_)
 ·refine Wc.s0 [2] [] ?_
  cases h; exact Wc.ret dn
 refine Wc.ks [0] [] ?_
 obtain ⟨u8k, h4, h⟩ := oc h fun _ => Zws
 refine Wc.s2 [{}, hC h4, {}, hK [11]] [0, 3] [3] (o1 h4) ?_
 obtain ⟨z4, h6, h⟩ := oc h fun _ => Zrb
 refine Wc.s2 [{}, hC h6] [3, 4] [3, 4] (o1 h6) ?_
 obtain ⟨u1o, h8, h⟩ := oc h fun _ => Zwk
 refine Wc.s2 [{}, {}, hC h8] [3, 4, 5] [3, 4, 5] (o1 h8) ?_
 have h10 := (Z1l (c := Gt.c) (x := z4) (Gt.c_eq z4) (Z2s Gt.c))
 obtain ⟨u1p, h11, h⟩ := oc h fun _ => Zwk
 refine Wc.s2 [{}, {}, hB h10, hK [19], hC h11] [3, 4, 5, 6] [3, 4, 5, 6] (o2 h10 h11) ?_
 have h13 := (Z1l (c := Gt.c) (x := z4) (Gt.c_eq z4) (Z1l (c := Gt.c) (x := Gt.mk 2 (bs [102, 97, 105, 108]) 0 []) (Gt.c_eq (Gt.mk 2 (bs [102, 97, 105, 108]) 0 [])) (Z2s Gt.c)))
 obtain ⟨u3t, h14, h⟩ := oc h fun _ => Zwk
 refine Wc.s2 [{}, {}, {}, hB h13, hK [25], hC h14] [5, 6, 7] [5, 6, 7] (o2 h13 h14) ?_
 apply Wc.seq
 refine Wc.seqJ (fun st => ∃ (u2h : Bool), st = ⟨[tP 5 5, tP 6 6, tP 7 7, tB 40 u2h], [bC 5 (Gw.q u1o), bC 6 (Gw.q u1p), bC 7 (Gw.q u3t)], []⟩ ∧ Z32 k u1o u1p u3t u2h = some r) ?_ ?_
 ·rcases oif h with ⟨h20, h⟩ | ⟨h20, h⟩
  ·rcases oif h with ⟨h21, h⟩ | ⟨h21, h⟩
   ·refine Wc.k2 [{}, {}, {}, rT, {}, {}, {}, {}, rT] [5, 6, 7, 40] [5, 6, 7] (o2 (cb h20) (cb h21)) ?_
    exact ⟨_, stB h⟩
   refine Wc.k2 [{}, {}, {}, rT, {}, {}, {}, {}, rF] [5, 6, 7, 40] [5, 6, 7] (o2 (cb h20) (cb h21)) ?_
   exact ⟨_, stB h⟩
  refine Wc.k2 [{}, {}, {}, rF] [5, 6, 7, 40] [5, 6, 7] (o1 (cb h20)) ?_
  exact ⟨_, stB h⟩
 rintro st ⟨u2h, rfl, h⟩
 refine Wc.ci h (fun _ h => ?_) (fun _ h => ?_)
 ·rcases oif h with ⟨h17, h⟩ | ⟨h17, h⟩
  ·refine Wc.s2 [{}, {}, {}, rT] [2] [] (o1 (cb h17)) ?_
   cases h; exact Wc.ret dn
  refine Wc.s2 [{}, {}, {}, rF] [2] [] (o1 (cb h17)) ?_
  cases h; exact Wc.ret dn
 refine Wc.ks [5, 6, 7] [5, 6, 7] ?_
 rcases oif h with ⟨h18, h⟩ | ⟨h18, h⟩
 ·rcases oif h with ⟨h19, h⟩ | ⟨h19, h⟩
  ·refine Wc.s2 [{}, {}, hL u1o.gp, {}, {}, {}, hL u1p.gp, {}, {}, rT, {}, {}, {}, rT] [2] [] (o4 (Z2 Gt.c u1o.gp) (Z2 Gt.c u1p.gp) (cb h18) (cb h19)) ?_
   cases h; exact Wc.ret dn
  refine Wc.s2 [{}, {}, hL u1o.gp, {}, {}, {}, hL u1p.gp, {}, {}, rT, {}, {}, {}, rF, {}, {}, hL u3t.gp] [2] [] (oC (Z2 Gt.c u1o.gp) (oC (Z2 Gt.c u1p.gp) (oC (cb h18) (oC (cb h19) (oC (Z2 Gt.c u3t.gp) AllP.nil))))) ?_
  cases h; exact Wc.ret dn
 refine Wc.s2 [{}, {}, hL u1o.gp, {}, {}, {}, hL u1p.gp, {}, {}, rF] [2] [] (o3 (Z2 Gt.c u1o.gp) (Z2 Gt.c u1p.gp) (cb h18)) ?_
 cases h; exact Wc.ret dn
end Go.Proofs.YtjaaacbiaimdlaaGreatDoor

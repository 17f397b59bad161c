/- What the functions do, part 1. -/
import Derived.Test.YtbchncaolapbhaaGreatDoorTy
set_option linter.unusedVariables false
set_option linter.unusedSimpArgs false
namespace Go.Proofs.YtbchncaolapbhaaGreatDoor
open Go.RowKit Go.Bv
def pspec_l01New_L1 (k : Nat) (ve : List Int) : Nat → Int → Int → Option (Out GL01Cur Int)
  | 0, _, _ => none
  | m + 1, ua, us =>
    if (decide (us < (ve.length : Int))) = true then
      if (decide (us < 4000)) = true then
        (at' ve us).bind fun un =>
        pspec_l01New_L1 k ve m (band .i64 (wr.i64 ((wr.i64 ((wr.i64 (ua * 131)) + (wr.i64 un))) + 7)) 1073741823) (wr.i64 (us + 1))
      else
        some (.done ua)
    else
      some (.done ua)
def pspec_l01New (k : Nat) (ve : List Int) : Option GL01Cur :=
  (pspec_l01New_L1 k ve k (wr.i64 (95101 + (ve.length : Int))) 0).bind fun out1 => match out1 with
  | .ret r => some r
  | .done u5 =>
    some (GL01Cur.mk ve 0 u5)
theorem cspec_l01New {k : Nat} {ve : List Int} {r : GL01Cur} (h : pspec_l01New k ve = some r) : FnO Tryz.prog 13 [.v (.sl (List.map cI.u8 ve)) []] (.p (GL01Cur.q r) []) [] := by
  refine FnO.o2 Tryz.func13 (rfl : Tryz.f13.body = some _) ?_
  intro w0 X0 Fin pv0 pb gt
  unfold pspec_l01New at h
  apply Wc.seq
  refine Wc.r0 ⟨[tV 0 (.sl (List.map cI.u8 ve))], [], []⟩ ?_
  apply Wc.seq
  refine Wc.r2 [{}, { v := some (aI (ve.length : Int)) }] ⟨[tV 0 (.sl (List.map cI.u8 ve)), tI 3 (wr.i64 (95101 + (ve.length : Int)))], [], []⟩ (.cons (len_obl cI.u8 ve) .nil) ?_
  apply Wc.seq
  apply Wc.seq
  refine Wc.r0 ⟨[tV 0 (.sl (List.map cI.u8 ve)), tI 3 (wr.i64 (95101 + (ve.length : Int))), tI 4 0], [], []⟩ ?_
  obtain ⟨out1, h1, h⟩ := obind h
  refine Wc.lastJ (fun st => ∃ (u5 : Int), out1 = .done u5 ∧ st = ⟨[tV 0 (.sl (List.map cI.u8 ve)), tI 3 u5], [], []⟩) ?_ ?_
  · refine Wc.block ?_
    refine Wc.loop (fun m st => ∃ (ua : Int) (us : Int), st = ⟨[tV 0 (.sl (List.map cI.u8 ve)), tI 3 ua, tI 4 us], [], []⟩ ∧ pspec_l01New_L1 k ve m ua us = some out1) ?_ k ⟨_, _, rfl, h1⟩
    rintro m st ⟨ua, us, rfl, h1⟩
    cases m with
    | zero => exact (onone h1).elim
    | succ m =>
      apply Wc.seq
      apply Wc.seq
      rcases oif h1 with ⟨h2, h1⟩ | ⟨h2, h1⟩
      · refine Wc.r2 [{}, {}, { v := some (aI (ve.length : Int)) }, {}, { re := some (.bool true) }] ⟨[tV 0 (.sl (List.map cI.u8 ve)), tI 3 ua, tI 4 us, tB 15 (decide (us < 4000))], [], []⟩ (.cons (len_obl cI.u8 ve) (.cons (congrArg AV.bool h2) .nil)) ?_
        rcases oif h1 with ⟨h3, h1⟩ | ⟨h3, h1⟩
        · refine Wc.cT h3 ?_
          refine Wc.fx [] ⟨[tV 0 (.sl (List.map cI.u8 ve)), tI 3 ua, tI 4 us], [], []⟩ ?_
          refine Wc.skip ?_
          apply Wc.seq
          refine Wc.block ?_
          obtain ⟨un, h4, h1⟩ := obind h1
          refine Wc.r2 [{}, {}, {}, {}, { v := some (.vptr [.int .u8 un]) }] ⟨[tV 0 (.sl (List.map cI.u8 ve)), tI 3 (band .i64 (wr.i64 ((wr.i64 ((wr.i64 (ua * 131)) + (wr.i64 un))) + 7)) 1073741823), tI 4 us], [], []⟩ (.cons (at_obl (c := cI.u8) rfl cI.u8_len h4) (.cons (len_ok 1 [.int .u8 un]) .nil)) ?_
          refine Wc.r0 ⟨[tV 0 (.sl (List.map cI.u8 ve)), tI 3 (band .i64 (wr.i64 ((wr.i64 ((wr.i64 (ua * 131)) + (wr.i64 un))) + 7)) 1073741823), tI 4 (wr.i64 (us + 1))], [], []⟩ ?_
          exact ⟨_, Nat.lt_succ_self _, _, _, rfl, h1⟩
        · refine Wc.cF h3 ?_
          refine Wc.fx [] ⟨[tV 0 (.sl (List.map cI.u8 ve)), tI 3 ua], [], []⟩ ?_
          refine Wc.exit ?_
          obtain rfl := Option.some.inj h1
          exact ⟨_, rfl, rfl⟩
      · refine Wc.r2 [{}, {}, { v := some (aI (ve.length : Int)) }, {}, { re := some (.bool false) }] ⟨[tV 0 (.sl (List.map cI.u8 ve)), tI 3 ua, tI 4 us, tB 15 false], [], []⟩ (.cons (len_obl cI.u8 ve) (.cons (congrArg AV.bool h2) .nil)) ?_
        refine Wc.cF rfl ?_
        refine Wc.fx [] ⟨[tV 0 (.sl (List.map cI.u8 ve)), tI 3 ua], [], []⟩ ?_
        refine Wc.exit ?_
        obtain rfl := Option.some.inj h1
        exact ⟨_, rfl, rfl⟩
  · rintro st ⟨u5, rfl, rfl⟩
    apply Wc.seq
    refine Wc.r0 ⟨[tP 2 31], [bC 31 [.sl (List.map cI.u8 ve), aI 0, aI u5]], []⟩ ?_
    obtain rfl := Option.some.inj h; exact Wc.ret dn

def pspec_l05Small (k : Nat) (ui : Int) : Option Bool :=
  if (decide (ui ≥ 97)) = true then
    some (decide (ui ≤ 122))
  else
    some false
theorem cspec_l05Small {k : Nat} {ui : Int} {r : Bool} (h : pspec_l05Small k ui = some r) : FnO Tryz.prog 46 [.v (.int .u8 ui) []] (.v (.bool r) []) [] := by
  refine FnO.o2 Tryz.func46 (rfl : Tryz.f46.body = some _) ?_
  intro w0 X0 Fin pv0 pb gt
  unfold pspec_l05Small at h
  apply Wc.seq
  refine Wc.r0 ⟨[tV 0 (.int .u8 ui)], [], []⟩ ?_
  apply Wc.seq
  rcases oif h with ⟨h10, h⟩ | ⟨h10, h⟩
  · refine Wc.r2 [{}, {}, { re := some (.bool true) }] ⟨[tB 2 (decide (ui ≤ 122))], [], []⟩ (.cons (congrArg AV.bool h10) .nil) ?_
    obtain rfl := Option.some.inj h; exact Wc.ret dn
  · refine Wc.r2 [{}, {}, { re := some (.bool false) }] ⟨[tB 2 false], [], []⟩ (.cons (congrArg AV.bool h10) .nil) ?_
    obtain rfl := Option.some.inj h; exact Wc.ret dn

def pspec_l01In (k : Nat) (u6 : Int) (uc : Int) (uf : Int) : Option Bool :=
  if (decide (u6 ≥ uc)) = true then
    some (decide (u6 ≤ uf))
  else
    some false
theorem cspec_l01In {k : Nat} {u6 : Int} {uc : Int} {uf : Int} {r : Bool} (h : pspec_l01In k u6 uc uf = some r) : FnO Tryz.prog 47 [.v (aI u6) [], .v (aI uc) [], .v (aI uf) []] (.v (.bool r) []) [] := by
  refine FnO.o2 Tryz.func47 (rfl : Tryz.f47.body = some _) ?_
  intro w0 X0 Fin pv0 pb gt
  unfold pspec_l01In at h
  apply Wc.seq
  refine Wc.r0 ⟨[tI 0 u6, tI 1 uc, tI 2 uf], [], []⟩ ?_
  apply Wc.seq
  rcases oif h with ⟨h13, h⟩ | ⟨h13, h⟩
  · refine Wc.r2 [{}, {}, {}, { re := some (.bool true) }] ⟨[tB 6 (decide (u6 ≤ uf))], [], []⟩ (.cons (congrArg AV.bool h13) .nil) ?_
    obtain rfl := Option.some.inj h; exact Wc.ret dn
  · refine Wc.r2 [{}, {}, {}, { re := some (.bool false) }] ⟨[tB 6 false], [], []⟩ (.cons (congrArg AV.bool h13) .nil) ?_
    obtain rfl := Option.some.inj h; exact Wc.ret dn

def pspec_l16Name_L1 (k : Nat) (u1 : ByteArray) : Nat → Int → Option (Out Bool Unit)
  | 0, _ => none
  | m + 1, u0 =>
    if (decide (u0 < (u1.size : Int))) = true then
      if 0 ≤ u0 ∧ (u0).toNat < u1.size then
        (pspec_l05Small k (bt u1 u0)).bind fun u47 =>
        if (!u47) = true then
          none
        else
          pspec_l16Name_L1 k u1 m (wr.i64 (u0 + 1))
      else none
    else
      some (.done ())
def pspec_l16Name (k : Nat) (u1 : ByteArray) : Option Bool :=
  (pspec_l16Name_L1 k u1 k 0).bind fun out1 => match out1 with
  | .ret r => some r
  | .done () =>
    (pspec_l01In k (u1.size : Int) 1 8).bind fun u03 =>
    some u03
theorem cspec_l16Name {k : Nat} {u1 : ByteArray} {r : Bool} (h : pspec_l16Name k u1 = some r) : FnO Tryz.prog 29 [.v (.str u1) []] (.v (.bool r) []) [] := by
  refine FnO.o2 Tryz.func29 (rfl : Tryz.f29.body = some _) ?_
  intro w0 X0 Fin pv0 pb gt
  unfold pspec_l16Name at h
  apply Wc.seq
  refine Wc.r0 ⟨[tS 0 u1], [], []⟩ ?_
  apply Wc.seq
  apply Wc.seq
  refine Wc.r0 ⟨[tS 0 u1, tI 3 0], [], []⟩ ?_
  obtain ⟨out1, h8, h⟩ := obind h
  refine Wc.lastJ (fun st => out1 = .done () ∧ st = ⟨[tS 0 u1], [], []⟩) ?_ ?_
  · refine Wc.block ?_
    refine Wc.loop (fun m st => ∃ (u0 : Int), st = ⟨[tS 0 u1, tI 3 u0], [], []⟩ ∧ pspec_l16Name_L1 k u1 m u0 = some out1) ?_ k ⟨_, rfl, h8⟩
    rintro m st ⟨u0, rfl, h8⟩
    cases m with
    | zero => exact (onone h8).elim
    | succ m =>
      apply Wc.seq
      apply Wc.seq
      refine Wc.r0 ⟨[tS 0 u1, tI 3 u0, tB 7 (decide (u0 < (u1.size : Int)))], [], []⟩ ?_
      rcases oif h8 with ⟨h9, h8⟩ | ⟨h9, h8⟩
      · refine Wc.cT h9 ?_
        refine Wc.fx [] ⟨[tS 0 u1, tI 3 u0], [], []⟩ ?_
        refine Wc.skip ?_
        apply Wc.seq
        refine Wc.block ?_
        apply Wc.seq
        obtain ⟨h10, h8⟩ := oguard h8
        obtain ⟨u47, h11, h8⟩ := obind h8
        refine Wc.r2 [{}, {}, {}, { r := some (.v (.bool u47) []) }] ⟨[tS 0 u1, tI 3 u0, tB 14 (!u47)], [], []⟩ (.cons h10 (.cons (cspec_l05Small h11) .nil)) ?_
        rcases oif h8 with ⟨h12, h8⟩ | ⟨h12, h8⟩
        · refine Wc.cT h12 ?_
          exact (onone h8).elim
        · refine Wc.cF h12 ?_
          refine Wc.fx [] ⟨[tS 0 u1, tI 3 u0], [], []⟩ ?_
          refine Wc.skip ?_
          refine Wc.r0 ⟨[tS 0 u1, tI 3 (wr.i64 (u0 + 1))], [], []⟩ ?_
          exact ⟨_, Nat.lt_succ_self _, _, rfl, h8⟩
      · refine Wc.cF h9 ?_
        refine Wc.fx [] ⟨[tS 0 u1], [], []⟩ ?_
        refine Wc.exit ?_
        obtain rfl := Option.some.inj h8
        exact ⟨rfl, rfl⟩
  · rintro st ⟨rfl, rfl⟩
    apply Wc.seq
    obtain ⟨u03, h13, h⟩ := obind h
    refine Wc.r2 [{}, {}, { r := some (.v (.bool u03) []) }] ⟨[tB 2 u03], [], []⟩ (.cons (cspec_l01In h13) .nil) ?_
    obtain rfl := Option.some.inj h; exact Wc.ret dn

def pspec_FilesOk_L1 (k : Nat) (vn : List GFile) : Nat → Int → Option (Out Bool Unit)
  | 0, _ => none
  | m + 1, vq =>
    if (decide (vq < (vn.length : Int))) = true then
      (at' vn vq).bind fun zq =>
      (pspec_l16Name k zq.gName).bind fun z1 =>
      if (!z1) = true then
        none
      else
        (at' vn vq).bind fun u0t =>
        if (decide ((u0t.gText.size : Int) > 3000)) = true then
          none
        else
          if (decide (vq > 0)) = true then
            (at' vn (wr.i64 (vq - 1))).bind fun u2b =>
            (at' vn vq).bind fun u2c =>
            if (!(sLt u2b.gName u2c.gName)) = true then
              none
            else
              pspec_FilesOk_L1 k vn m (wr.i64 (vq + 1))
          else
            pspec_FilesOk_L1 k vn m (wr.i64 (vq + 1))
    else
      some (.done ())
def pspec_FilesOk (k : Nat) (vn : List GFile) : Option Bool :=
  (pspec_FilesOk_L1 k vn k 0).bind fun out1 => match out1 with
  | .ret r => some r
  | .done () =>
    some (decide ((vn.length : Int) ≤ 6))
theorem cspec_FilesOk {k : Nat} {vn : List GFile} {r : Bool} (h : pspec_FilesOk k vn = some r) : FnO Tryz.prog 17 [.v (.sl (List.map GFile.c vn)) []] (.v (.bool r) []) [] := by
  refine FnO.o2 Tryz.func17 (rfl : Tryz.f17.body = some _) ?_
  intro w0 X0 Fin pv0 pb gt
  unfold pspec_FilesOk at h
  apply Wc.seq
  refine Wc.r0 ⟨[tV 0 (.sl (List.map GFile.c vn))], [], []⟩ ?_
  apply Wc.seq
  apply Wc.seq
  refine Wc.r0 ⟨[tV 0 (.sl (List.map GFile.c vn)), tI 3 0], [], []⟩ ?_
  obtain ⟨out1, h18, h⟩ := obind h
  refine Wc.lastJ (fun st => out1 = .done () ∧ st = ⟨[tV 0 (.sl (List.map GFile.c vn))], [], []⟩) ?_ ?_
  · refine Wc.block ?_
    refine Wc.loop (fun m st => ∃ (vq : Int), st = ⟨[tV 0 (.sl (List.map GFile.c vn)), tI 3 vq], [], []⟩ ∧ pspec_FilesOk_L1 k vn m vq = some out1) ?_ k ⟨_, rfl, h18⟩
    rintro m st ⟨vq, rfl, h18⟩
    cases m with
    | zero => exact (onone h18).elim
    | succ m =>
      apply Wc.seq
      apply Wc.seq
      refine Wc.r2 [{}, {}, { v := some (aI (vn.length : Int)) }] ⟨[tV 0 (.sl (List.map GFile.c vn)), tI 3 vq, tB 7 (decide (vq < (vn.length : Int)))], [], []⟩ (.cons (len_obl GFile.c vn) .nil) ?_
      rcases oif h18 with ⟨h19, h18⟩ | ⟨h19, h18⟩
      · refine Wc.cT h19 ?_
        refine Wc.fx [] ⟨[tV 0 (.sl (List.map GFile.c vn)), tI 3 vq], [], []⟩ ?_
        refine Wc.skip ?_
        apply Wc.seq
        refine Wc.block ?_
        apply Wc.seq
        obtain ⟨zq, h20, h18⟩ := obind h18
        obtain ⟨z1, h21, h18⟩ := obind h18
        rcases oif h18 with ⟨h22, h18⟩ | ⟨h22, h18⟩
        · refine Wc.draw hmix [{}, {}, { v := some (.vptr [.str zq.gName, .str zq.gText]) }, {}, {}, { r := some (.v (.bool z1) []) }, {}, { re := some (.bool true) }] [] [0, 3, 43] [] [] ⟨[tV 0 (.sl (List.map GFile.c vn)), tI 3 vq, tB 43 true], [], []⟩ _ (by kernel_rfl) (fun X => by kernel_rfl) (.cons (at_obl (c := GFile.c) (GFile.c_eq zq) GFile.c_len h20) (.cons (len_ok 1 [.str zq.gName, .str zq.gText]) (.cons (cspec_l16Name h21) (.cons (congrArg AV.bool h22) .nil)))) ?_
          refine Wc.cT rfl ?_
          exact (onone h18).elim
        · obtain ⟨u0t, h23, h18⟩ := obind h18
          rcases oif h18 with ⟨h24, h18⟩ | ⟨h24, h18⟩
          · refine Wc.draw hmix [{}, {}, { v := some (.vptr [.str zq.gName, .str zq.gText]) }, {}, {}, { r := some (.v (.bool z1) []) }, {}, { re := some (.bool false) }, {}, {}, { v := some (.vptr [.str u0t.gName, .str u0t.gText]) }, {}, {}, {}, {}, {}, { re := some (.bool true) }] [] [0, 3, 43] [] [] ⟨[tV 0 (.sl (List.map GFile.c vn)), tI 3 vq, tB 43 true], [], []⟩ _ (by kernel_rfl) (fun X => by kernel_rfl) (.cons (at_obl (c := GFile.c) (GFile.c_eq zq) GFile.c_len h20) (.cons (len_ok 1 [.str zq.gName, .str zq.gText]) (.cons (cspec_l16Name h21) (.cons (congrArg AV.bool h22) (.cons (at_obl (c := GFile.c) (GFile.c_eq u0t) GFile.c_len h23) (.cons (len_ok 1 [.str u0t.gText]) (.cons (congrArg AV.bool h24) .nil))))))) ?_
            refine Wc.cT rfl ?_
            exact (onone h18).elim
          · rcases oif h18 with ⟨h25, h18⟩ | ⟨h25, h18⟩
            · obtain ⟨u2b, h26, h18⟩ := obind h18
              obtain ⟨u2c, h27, h18⟩ := obind h18
              refine Wc.draw hmix [{}, {}, { v := some (.vptr [.str zq.gName, .str zq.gText]) }, {}, {}, { r := some (.v (.bool z1) []) }, {}, { re := some (.bool false) }, {}, {}, { v := some (.vptr [.str u0t.gName, .str u0t.gText]) }, {}, {}, {}, {}, {}, { re := some (.bool false) }, {}, {}, { re := some (.bool true) }, {}, {}, {}, { v := some (.vptr [.str u2b.gName, .str u2b.gText]) }, {}, {}, {}, {}, { v := some (.vptr [.str u2c.gName, .str u2c.gText]) }] [] [0, 3, 43] [] [] ⟨[tV 0 (.sl (List.map GFile.c vn)), tI 3 vq, tB 43 (!(sLt u2b.gName u2c.gName))], [], []⟩ _ (by kernel_rfl) (fun X => by kernel_rfl) (.cons (at_obl (c := GFile.c) (GFile.c_eq zq) GFile.c_len h20) (.cons (len_ok 1 [.str zq.gName, .str zq.gText]) (.cons (cspec_l16Name h21) (.cons (congrArg AV.bool h22) (.cons (at_obl (c := GFile.c) (GFile.c_eq u0t) GFile.c_len h23) (.cons (len_ok 1 [.str u0t.gText]) (.cons (congrArg AV.bool h24) (.cons (congrArg AV.bool h25) (.cons (at_obl (c := GFile.c) (GFile.c_eq u2b) GFile.c_len h26) (.cons (len_ok 1 [.str u2b.gName, .str u2b.gText]) (.cons (at_obl (c := GFile.c) (GFile.c_eq u2c) GFile.c_len h27) (.cons (len_ok 1 [.str u2c.gName, .str u2c.gText]) .nil)))))))))))) ?_
              rcases oif h18 with ⟨h28, h18⟩ | ⟨h28, h18⟩
              · refine Wc.cT h28 ?_
                exact (onone h18).elim
              · refine Wc.cF h28 ?_
                refine Wc.fx [] ⟨[tV 0 (.sl (List.map GFile.c vn)), tI 3 vq], [], []⟩ ?_
                refine Wc.skip ?_
                refine Wc.r0 ⟨[tV 0 (.sl (List.map GFile.c vn)), tI 3 (wr.i64 (vq + 1))], [], []⟩ ?_
                exact ⟨_, Nat.lt_succ_self _, _, rfl, h18⟩
            · refine Wc.draw hmix [{}, {}, { v := some (.vptr [.str zq.gName, .str zq.gText]) }, {}, {}, { r := some (.v (.bool z1) []) }, {}, { re := some (.bool false) }, {}, {}, { v := some (.vptr [.str u0t.gName, .str u0t.gText]) }, {}, {}, {}, {}, {}, { re := some (.bool false) }, {}, {}, { re := some (.bool false) }] [] [0, 3, 43] [] [] ⟨[tV 0 (.sl (List.map GFile.c vn)), tI 3 vq, tB 43 false], [], []⟩ _ (by kernel_rfl) (fun X => by kernel_rfl) (.cons (at_obl (c := GFile.c) (GFile.c_eq zq) GFile.c_len h20) (.cons (len_ok 1 [.str zq.gName, .str zq.gText]) (.cons (cspec_l16Name h21) (.cons (congrArg AV.bool h22) (.cons (at_obl (c := GFile.c) (GFile.c_eq u0t) GFile.c_len h23) (.cons (len_ok 1 [.str u0t.gText]) (.cons (congrArg AV.bool h24) (.cons (congrArg AV.bool h25) .nil)))))))) ?_
              refine Wc.cF rfl ?_
              refine Wc.fx [] ⟨[tV 0 (.sl (List.map GFile.c vn)), tI 3 vq], [], []⟩ ?_
              refine Wc.skip ?_
              refine Wc.r0 ⟨[tV 0 (.sl (List.map GFile.c vn)), tI 3 (wr.i64 (vq + 1))], [], []⟩ ?_
              exact ⟨_, Nat.lt_succ_self _, _, rfl, h18⟩
      · refine Wc.cF h19 ?_
        refine Wc.fx [] ⟨[tV 0 (.sl (List.map GFile.c vn))], [], []⟩ ?_
        refine Wc.exit ?_
        obtain rfl := Option.some.inj h18
        exact ⟨rfl, rfl⟩
  · rintro st ⟨rfl, rfl⟩
    apply Wc.seq
    refine Wc.r2 [{}, { v := some (aI (vn.length : Int)) }] ⟨[tB 2 (decide ((vn.length : Int) ≤ 6))], [], []⟩ (.cons (len_obl GFile.c vn) .nil) ?_
    obtain rfl := Option.some.inj h; exact Wc.ret dn

def pspec_l01Byte (k : Nat) (uo : GL01Cur) : Option (GL01Cur × Int) :=
  if (decide (uo.gI < (uo.gB.length : Int))) = true then
    (at' uo.gB uo.gI).bind fun uf =>
    some (GL01Cur.mk uo.gB (wr.i64 (uo.gI + 1)) (wr.i64 ((wr.i64 (uo.gH * 6364136223846793005)) + 1442695040888963407)), band .i64 (wr.i64 ((band .i64 (bxor .i64 (bshr .i64 (wr.i64 ((wr.i64 (uo.gH * 6364136223846793005)) + 1442695040888963407)) 33) (bshr .i64 (wr.i64 ((wr.i64 (uo.gH * 6364136223846793005)) + 1442695040888963407)) 45)) 255) + (wr.i64 uf))) 255)
  else
    some (GL01Cur.mk uo.gB uo.gI (wr.i64 ((wr.i64 (uo.gH * 6364136223846793005)) + 1442695040888963407)), band .i64 (bxor .i64 (bshr .i64 (wr.i64 ((wr.i64 (uo.gH * 6364136223846793005)) + 1442695040888963407)) 33) (bshr .i64 (wr.i64 ((wr.i64 (uo.gH * 6364136223846793005)) + 1442695040888963407)) 45)) 255)
theorem cspec_l01Byte {k : Nat} {uo : GL01Cur} {r : GL01Cur × Int} (h : pspec_l01Byte k uo = some r) : FnO Tryz.prog 14 [.p (GL01Cur.q uo) []] (.v (aI r.2) []) [(0, .p (GL01Cur.q r.1) [])] := by
  refine FnO.o2 Tryz.func14 (rfl : Tryz.f14.body = some _) ?_
  intro w0 X0 Fin pv0 pb gt
  unfold pspec_l01Byte at h
  apply Wc.seq
  refine Wc.r0 ⟨[tP 0 1000000], [bC 1000000 (GL01Cur.q uo)], []⟩ ?_
  apply Wc.seq
  refine Wc.r0 ⟨[tP 0 1000000], [bC 1000000 [.sl (List.map cI.u8 uo.gB), aI uo.gI, aI (wr.i64 ((wr.i64 (uo.gH * 6364136223846793005)) + 1442695040888963407))]], []⟩ ?_
  apply Wc.seq
  refine Wc.draw hmix [] [] [0, 3] [1000000] [] ⟨[tP 0 1000000, tI 3 (band .i64 (bxor .i64 (bshr .i64 (wr.i64 ((wr.i64 (uo.gH * 6364136223846793005)) + 1442695040888963407)) 33) (bshr .i64 (wr.i64 ((wr.i64 (uo.gH * 6364136223846793005)) + 1442695040888963407)) 45)) 255)], [bC 1000000 [.sl (List.map cI.u8 uo.gB), aI uo.gI, aI (wr.i64 ((wr.i64 (uo.gH * 6364136223846793005)) + 1442695040888963407))]], []⟩ _ (by kernel_rfl) (fun X => by kernel_rfl) (.cons (show (0 : Int) ≤ 33 by decide) (.cons (show (0 : Int) ≤ 45 by decide) .nil)) ?_
  apply Wc.seq
  apply Wc.seq
  refine Wc.draw hmix [{}, {}, {}, {}, {}, {}, {}, {}, { v := some (aI (uo.gB.length : Int)) }] [] [0, 3, 34] [1000000] [] ⟨[tP 0 1000000, tI 3 (band .i64 (bxor .i64 (bshr .i64 (wr.i64 ((wr.i64 (uo.gH * 6364136223846793005)) + 1442695040888963407)) 33) (bshr .i64 (wr.i64 ((wr.i64 (uo.gH * 6364136223846793005)) + 1442695040888963407)) 45)) 255), tB 34 (decide (uo.gI < (uo.gB.length : Int)))], [bC 1000000 [.sl (List.map cI.u8 uo.gB), aI uo.gI, aI (wr.i64 ((wr.i64 (uo.gH * 6364136223846793005)) + 1442695040888963407))]], []⟩ _ (by kernel_rfl) (fun X => by kernel_rfl) (.cons (len_obl cI.u8 uo.gB) .nil) ?_
  rcases oif h with ⟨h9, h⟩ | ⟨h9, h⟩
  · refine Wc.cT h9 ?_
    apply Wc.seq
    obtain ⟨uf, h10, h⟩ := obind h
    refine Wc.draw hmix [{}, {}, {}, {}, {}, {}, {}, {}, {}, { v := some (.vptr [.int .u8 uf]) }] [] [0, 3] [1000000] [] ⟨[tP 0 1000000, tI 3 (band .i64 (wr.i64 ((band .i64 (bxor .i64 (bshr .i64 (wr.i64 ((wr.i64 (uo.gH * 6364136223846793005)) + 1442695040888963407)) 33) (bshr .i64 (wr.i64 ((wr.i64 (uo.gH * 6364136223846793005)) + 1442695040888963407)) 45)) 255) + (wr.i64 uf))) 255)], [bC 1000000 [.sl (List.map cI.u8 uo.gB), aI uo.gI, aI (wr.i64 ((wr.i64 (uo.gH * 6364136223846793005)) + 1442695040888963407))]], []⟩ _ (by kernel_rfl) (fun X => by kernel_rfl) (.cons (at_obl (c := cI.u8) rfl cI.u8_len h10) (.cons (len_ok 1 [.int .u8 uf]) .nil)) ?_
    refine Wc.r0 ⟨[tI 3 (band .i64 (wr.i64 ((band .i64 (bxor .i64 (bshr .i64 (wr.i64 ((wr.i64 (uo.gH * 6364136223846793005)) + 1442695040888963407)) 33) (bshr .i64 (wr.i64 ((wr.i64 (uo.gH * 6364136223846793005)) + 1442695040888963407)) 45)) 255) + (wr.i64 uf))) 255)], [bC 1000000 [.sl (List.map cI.u8 uo.gB), aI (wr.i64 (uo.gI + 1)), aI (wr.i64 ((wr.i64 (uo.gH * 6364136223846793005)) + 1442695040888963407))]], []⟩ ?_
    apply Wc.seq
    refine Wc.r0 ⟨[tI 2 (band .i64 (wr.i64 ((band .i64 (bxor .i64 (bshr .i64 (wr.i64 ((wr.i64 (uo.gH * 6364136223846793005)) + 1442695040888963407)) 33) (bshr .i64 (wr.i64 ((wr.i64 (uo.gH * 6364136223846793005)) + 1442695040888963407)) 45)) 255) + (wr.i64 uf))) 255)], [bC 1000000 [.sl (List.map cI.u8 uo.gB), aI (wr.i64 (uo.gI + 1)), aI (wr.i64 ((wr.i64 (uo.gH * 6364136223846793005)) + 1442695040888963407))]], []⟩ ?_
    obtain rfl := Option.some.inj h; exact Wc.ret dn
  · refine Wc.cF h9 ?_
    refine Wc.fx [] ⟨[tI 3 (band .i64 (bxor .i64 (bshr .i64 (wr.i64 ((wr.i64 (uo.gH * 6364136223846793005)) + 1442695040888963407)) 33) (bshr .i64 (wr.i64 ((wr.i64 (uo.gH * 6364136223846793005)) + 1442695040888963407)) 45)) 255)], [bC 1000000 [.sl (List.map cI.u8 uo.gB), aI uo.gI, aI (wr.i64 ((wr.i64 (uo.gH * 6364136223846793005)) + 1442695040888963407))]], []⟩ ?_
    refine Wc.skip ?_
    apply Wc.seq
    refine Wc.r0 ⟨[tI 2 (band .i64 (bxor .i64 (bshr .i64 (wr.i64 ((wr.i64 (uo.gH * 6364136223846793005)) + 1442695040888963407)) 33) (bshr .i64 (wr.i64 ((wr.i64 (uo.gH * 6364136223846793005)) + 1442695040888963407)) 45)) 255)], [bC 1000000 [.sl (List.map cI.u8 uo.gB), aI uo.gI, aI (wr.i64 ((wr.i64 (uo.gH * 6364136223846793005)) + 1442695040888963407))]], []⟩ ?_
    obtain rfl := Option.some.inj h; exact Wc.ret dn

def pspec_l01Below (k : Nat) (vy : GL01Cur) (u6 : Int) : Option (GL01Cur × Int) :=
  if (decide (u6 ≤ 0)) = true then
    none
  else
    if (decide (u6 ≤ 256)) = true then
      (pspec_l01Byte k vy).bind fun u2m =>
      if (u6 : Int) ≠ 0 then
        some (u2m.1, Int.tmod u2m.2 u6)
      else none
    else
      (pspec_l01Byte k vy).bind fun u1c =>
      (pspec_l01Byte k u1c.1).bind fun u1k =>
      (pspec_l01Byte k u1k.1).bind fun u23 =>
      (pspec_l01Byte k u23.1).bind fun zg =>
      if (u6 : Int) ≠ 0 then
        some (zg.1, Int.tmod (wr.i64 ((wr.i64 ((wr.i64 ((wr.i64 (u1c.2 * 16777216)) + (wr.i64 (u1k.2 * 65536)))) + (wr.i64 (u23.2 * 256)))) + zg.2)) u6)
      else none
theorem cspec_l01Below {k : Nat} {vy : GL01Cur} {u6 : Int} {r : GL01Cur × Int} (h : pspec_l01Below k vy u6 = some r) : FnO Tryz.prog 15 [.p (GL01Cur.q vy) [], .v (aI u6) []] (.v (aI r.2) []) [(0, .p (GL01Cur.q r.1) [])] := by
  refine FnO.o2 Tryz.func15 (rfl : Tryz.f15.body = some _) ?_
  intro w0 X0 Fin pv0 pb gt
  unfold pspec_l01Below at h
  apply Wc.seq
  refine Wc.r0 ⟨[tP 0 1000000, tI 1 u6], [bC 1000000 (GL01Cur.q vy)], []⟩ ?_
  apply Wc.seq
  apply Wc.seq
  refine Wc.r0 ⟨[tP 0 1000000, tI 1 u6, tB 10 (decide (u6 ≤ 0))], [bC 1000000 (GL01Cur.q vy)], []⟩ ?_
  rcases oif h with ⟨h7, h⟩ | ⟨h7, h⟩
  · refine Wc.cT h7 ?_
    exact (onone h).elim
  · refine Wc.cF h7 ?_
    refine Wc.fx [] ⟨[tP 0 1000000, tI 1 u6], [bC 1000000 (GL01Cur.q vy)], []⟩ ?_
    refine Wc.skip ?_
    apply Wc.seq
    apply Wc.seq
    refine Wc.r0 ⟨[tP 0 1000000, tI 1 u6, tB 12 (decide (u6 ≤ 256))], [bC 1000000 (GL01Cur.q vy)], []⟩ ?_
    rcases oif h with ⟨h8, h⟩ | ⟨h8, h⟩
    · refine Wc.cT h8 ?_
      apply Wc.seq
      obtain ⟨u2m, h9, h⟩ := obind h
      obtain ⟨h10, h⟩ := oguard h
      refine Wc.r2 [{}, { r := some (.v (aI u2m.2) []), outs := [(0, .p (GL01Cur.q u2m.1) [])] }] ⟨[tI 4 (Int.tmod u2m.2 u6)], [bC 1000000 (GL01Cur.q u2m.1)], []⟩ (.cons (cspec_l01Byte h9) (.cons h10 .nil)) ?_
      obtain rfl := Option.some.inj h; exact Wc.ret dn
    · refine Wc.cF h8 ?_
      refine Wc.fx [] ⟨[tP 0 1000000, tI 1 u6], [bC 1000000 (GL01Cur.q vy)], []⟩ ?_
      refine Wc.skip ?_
      apply Wc.seq
      obtain ⟨u1c, h11, h⟩ := obind h
      refine Wc.r2 [{}, { r := some (.v (aI u1c.2) []), outs := [(0, .p (GL01Cur.q u1c.1) [])] }] ⟨[tP 0 1000000, tI 1 u6, tI 5 u1c.2], [bC 1000000 (GL01Cur.q u1c.1)], []⟩ (.cons (cspec_l01Byte h11) .nil) ?_
      apply Wc.seq
      obtain ⟨u1k, h12, h⟩ := obind h
      refine Wc.r2 [{}, { r := some (.v (aI u1k.2) []), outs := [(0, .p (GL01Cur.q u1k.1) [])] }] ⟨[tP 0 1000000, tI 1 u6, tI 5 u1c.2, tI 6 u1k.2], [bC 1000000 (GL01Cur.q u1k.1)], []⟩ (.cons (cspec_l01Byte h12) .nil) ?_
      apply Wc.seq
      obtain ⟨u23, h13, h⟩ := obind h
      refine Wc.r2 [{}, { r := some (.v (aI u23.2) []), outs := [(0, .p (GL01Cur.q u23.1) [])] }] ⟨[tP 0 1000000, tI 1 u6, tI 5 u1c.2, tI 6 u1k.2, tI 7 u23.2], [bC 1000000 (GL01Cur.q u23.1)], []⟩ (.cons (cspec_l01Byte h13) .nil) ?_
      apply Wc.seq
      obtain ⟨zg, h14, h⟩ := obind h
      refine Wc.r2 [{}, { r := some (.v (aI zg.2) []), outs := [(0, .p (GL01Cur.q zg.1) [])] }] ⟨[tI 1 u6, tI 5 u1c.2, tI 6 u1k.2, tI 7 u23.2, tI 8 zg.2], [bC 1000000 (GL01Cur.q zg.1)], []⟩ (.cons (cspec_l01Byte h14) .nil) ?_
      apply Wc.seq
      obtain ⟨h15, h⟩ := oguard h
      refine Wc.r2 [] ⟨[tI 4 (Int.tmod (wr.i64 ((wr.i64 ((wr.i64 ((wr.i64 (u1c.2 * 16777216)) + (wr.i64 (u1k.2 * 65536)))) + (wr.i64 (u23.2 * 256)))) + zg.2)) u6)], [bC 1000000 (GL01Cur.q zg.1)], []⟩ (.cons h15 .nil) ?_
      obtain rfl := Option.some.inj h; exact Wc.ret dn

def pspec_l01Once (k : Nat) (u0k : GL01Cur) (u0 : Int) : Option (GL01Cur × Bool) :=
  (pspec_l01Below k u0k u0).bind fun u2n =>
  some (u2n.1, (u2n.2 == 0))
theorem cspec_l01Once {k : Nat} {u0k : GL01Cur} {u0 : Int} {r : GL01Cur × Bool} (h : pspec_l01Once k u0k u0 = some r) : FnO Tryz.prog 27 [.p (GL01Cur.q u0k) [], .v (aI u0) []] (.v (.bool r.2) []) [(0, .p (GL01Cur.q r.1) [])] := by
  refine FnO.o2 Tryz.func27 (rfl : Tryz.f27.body = some _) ?_
  intro w0 X0 Fin pv0 pb gt
  unfold pspec_l01Once at h
  apply Wc.seq
  refine Wc.r0 ⟨[tP 0 1000000, tI 1 u0], [bC 1000000 (GL01Cur.q u0k)], []⟩ ?_
  apply Wc.seq
  obtain ⟨u2n, h7, h⟩ := obind h
  refine Wc.r2 [{}, {}, { r := some (.v (aI u2n.2) []), outs := [(0, .p (GL01Cur.q u2n.1) [])] }] ⟨[tB 4 (u2n.2 == 0)], [bC 1000000 (GL01Cur.q u2n.1)], []⟩ (.cons (cspec_l01Below h7) .nil) ?_
  obtain rfl := Option.some.inj h; exact Wc.ret dn

def pspec_l08Lines (k : Nat) : Option (List ByteArray) :=
  some [(bs [112, 40, 97, 41]), (bs [112, 40, 98, 41]), (bs [112, 40, 99, 41]), (bs [113, 40, 88, 41, 32, 58, 45, 32, 112, 40, 88, 41]), (bs [113, 40, 122, 41]), (bs [114, 40, 88, 44, 32, 89, 41, 32, 58, 45, 32, 112, 40, 88, 41, 44, 32, 113, 40, 89, 41]), (bs [97, 112, 112, 40, 91, 93, 44, 32, 76, 44, 32, 76, 41]), (bs [97, 112, 112, 40, 91, 72, 124, 84, 93, 44, 32, 76, 44, 32, 91, 72, 124, 82, 93, 41, 32, 58, 45, 32, 97, 112, 112, 40, 84, 44, 32, 76, 44, 32, 82, 41]), (bs [108, 101, 110, 40, 91, 93, 44, 32, 48, 41]), (bs [108, 101, 110, 40, 91, 95, 124, 84, 93, 44, 32, 78, 41, 32, 58, 45, 32, 108, 101, 110, 40, 84, 44, 32, 77, 41, 44, 32, 78, 32, 105, 115, 32, 77, 32, 43, 32, 49]), (bs [115, 40, 88, 41, 32, 58, 45, 32, 112, 40, 88, 41, 44, 32, 33]), (bs [115, 40, 122, 41]), (bs [116, 40, 88, 41, 32, 58, 45, 32, 40, 112, 40, 88, 41, 32, 45, 62, 32, 116, 114, 117, 101, 32, 59, 32, 88, 32, 61, 32, 110, 111, 110, 101, 41]), (bs [117, 40, 88, 41, 32, 58, 45, 32, 92, 43, 32, 112, 40, 88, 41]), (bs [119, 40, 88, 41, 32, 58, 45, 32, 112, 40, 88, 41, 44, 32, 119, 114, 105, 116, 101, 40, 88, 41]), (bs [99, 40, 88, 41, 32, 58, 45, 32, 99, 97, 116, 99, 104, 40, 112, 40, 88, 41, 44, 32, 95, 44, 32, 116, 114, 117, 101, 41]), (bs [101, 40, 88, 41, 32, 58, 45, 32, 99, 97, 116, 99, 104, 40, 116, 104, 114, 111, 119, 40, 88, 41, 44, 32, 89, 44, 32, 119, 114, 105, 116, 101, 40, 89, 41, 41]), (bs [110, 40, 88, 41, 32, 58, 45, 32, 88, 32, 105, 115, 32, 51, 32, 47, 47, 32, 48]), (bs [109, 40, 88, 41, 32, 58, 45, 32, 99, 97, 116, 99, 104, 40, 110, 40, 88, 41, 44, 32, 101, 114, 114, 111, 114, 40, 69, 44, 32, 95, 41, 44, 32, 40, 88, 32, 61, 32, 69, 41, 41]), (bs [97, 100, 100, 40, 88, 41, 32, 58, 45, 32, 97, 115, 115, 101, 114, 116, 122, 40, 112, 40, 88, 41, 41]), (bs [100, 101, 108, 40, 88, 41, 32, 58, 45, 32, 114, 101, 116, 114, 97, 99, 116, 40, 112, 40, 88, 41, 41]), (bs [108, 111, 111, 112, 32, 58, 45, 32, 108, 111, 111, 112]), (bs [118, 40, 88, 41, 32, 58, 45, 32, 99, 97, 108, 108, 40, 112, 44, 32, 88, 41]), (bs [100, 40, 88, 44, 32, 89, 41, 32, 58, 45, 32, 88, 32, 61, 32, 89, 32, 59, 32, 89, 32, 61, 32, 98]), (bs [103, 40, 102, 40, 88, 41, 44, 32, 88, 41]), (bs [103, 40, 104, 40, 88, 41, 44, 32, 88, 41]), (bs [103, 40, 49, 44, 32, 111, 110, 101, 41]), (bs [107, 40, 88, 41, 32, 58, 45, 32, 117, 110, 107, 110, 111, 119, 110, 40, 88, 41]), (bs [121, 40, 88, 41, 32, 58, 45, 32, 112, 40, 88, 41, 44, 32, 97, 115, 115, 101, 114, 116, 122, 40, 112, 40, 100, 41, 41, 44, 32, 88, 32, 61, 32, 98])]
theorem cspec_l08Lines {k : Nat} {r : (List ByteArray)} (h : pspec_l08Lines k = some r) : FnO Tryz.prog 44 [] (.v (.sl (List.map cS r)) [(0, .app 9)]) [] := by
  refine FnO.o2 Tryz.func44 (rfl : Tryz.f44.body = some _) ?_
  intro w0 X0 Fin pv0 pb gt
  unfold pspec_l08Lines at h
  apply Wc.seq
  refine Wc.r0 ⟨[], [], []⟩ ?_
  apply Wc.seq
  refine Wc.r2 [{ c := some (List.map cS [(bs [112, 40, 97, 41]), (bs [112, 40, 98, 41]), (bs [112, 40, 99, 41]), (bs [113, 40, 88, 41, 32, 58, 45, 32, 112, 40, 88, 41]), (bs [113, 40, 122, 41]), (bs [114, 40, 88, 44, 32, 89, 41, 32, 58, 45, 32, 112, 40, 88, 41, 44, 32, 113, 40, 89, 41]), (bs [97, 112, 112, 40, 91, 93, 44, 32, 76, 44, 32, 76, 41]), (bs [97, 112, 112, 40, 91, 72, 124, 84, 93, 44, 32, 76, 44, 32, 91, 72, 124, 82, 93, 41, 32, 58, 45, 32, 97, 112, 112, 40, 84, 44, 32, 76, 44, 32, 82, 41]), (bs [108, 101, 110, 40, 91, 93, 44, 32, 48, 41]), (bs [108, 101, 110, 40, 91, 95, 124, 84, 93, 44, 32, 78, 41, 32, 58, 45, 32, 108, 101, 110, 40, 84, 44, 32, 77, 41, 44, 32, 78, 32, 105, 115, 32, 77, 32, 43, 32, 49]), (bs [115, 40, 88, 41, 32, 58, 45, 32, 112, 40, 88, 41, 44, 32, 33]), (bs [115, 40, 122, 41]), (bs [116, 40, 88, 41, 32, 58, 45, 32, 40, 112, 40, 88, 41, 32, 45, 62, 32, 116, 114, 117, 101, 32, 59, 32, 88, 32, 61, 32, 110, 111, 110, 101, 41]), (bs [117, 40, 88, 41, 32, 58, 45, 32, 92, 43, 32, 112, 40, 88, 41]), (bs [119, 40, 88, 41, 32, 58, 45, 32, 112, 40, 88, 41, 44, 32, 119, 114, 105, 116, 101, 40, 88, 41]), (bs [99, 40, 88, 41, 32, 58, 45, 32, 99, 97, 116, 99, 104, 40, 112, 40, 88, 41, 44, 32, 95, 44, 32, 116, 114, 117, 101, 41]), (bs [101, 40, 88, 41, 32, 58, 45, 32, 99, 97, 116, 99, 104, 40, 116, 104, 114, 111, 119, 40, 88, 41, 44, 32, 89, 44, 32, 119, 114, 105, 116, 101, 40, 89, 41, 41]), (bs [110, 40, 88, 41, 32, 58, 45, 32, 88, 32, 105, 115, 32, 51, 32, 47, 47, 32, 48]), (bs [109, 40, 88, 41, 32, 58, 45, 32, 99, 97, 116, 99, 104, 40, 110, 40, 88, 41, 44, 32, 101, 114, 114, 111, 114, 40, 69, 44, 32, 95, 41, 44, 32, 40, 88, 32, 61, 32, 69, 41, 41]), (bs [97, 100, 100, 40, 88, 41, 32, 58, 45, 32, 97, 115, 115, 101, 114, 116, 122, 40, 112, 40, 88, 41, 41]), (bs [100, 101, 108, 40, 88, 41, 32, 58, 45, 32, 114, 101, 116, 114, 97, 99, 116, 40, 112, 40, 88, 41, 41]), (bs [108, 111, 111, 112, 32, 58, 45, 32, 108, 111, 111, 112]), (bs [118, 40, 88, 41, 32, 58, 45, 32, 99, 97, 108, 108, 40, 112, 44, 32, 88, 41]), (bs [100, 40, 88, 44, 32, 89, 41, 32, 58, 45, 32, 88, 32, 61, 32, 89, 32, 59, 32, 89, 32, 61, 32, 98]), (bs [103, 40, 102, 40, 88, 41, 44, 32, 88, 41]), (bs [103, 40, 104, 40, 88, 41, 44, 32, 88, 41]), (bs [103, 40, 49, 44, 32, 111, 110, 101, 41]), (bs [107, 40, 88, 41, 32, 58, 45, 32, 117, 110, 107, 110, 111, 119, 110, 40, 88, 41]), (bs [121, 40, 88, 41, 32, 58, 45, 32, 112, 40, 88, 41, 44, 32, 97, 115, 115, 101, 114, 116, 122, 40, 112, 40, 100, 41, 41, 44, 32, 88, 32, 61, 32, 98])]) }, { tk := [1] }] ⟨[(0, (.v (.sl (List.map cS [(bs [112, 40, 97, 41]), (bs [112, 40, 98, 41]), (bs [112, 40, 99, 41]), (bs [113, 40, 88, 41, 32, 58, 45, 32, 112, 40, 88, 41]), (bs [113, 40, 122, 41]), (bs [114, 40, 88, 44, 32, 89, 41, 32, 58, 45, 32, 112, 40, 88, 41, 44, 32, 113, 40, 89, 41]), (bs [97, 112, 112, 40, 91, 93, 44, 32, 76, 44, 32, 76, 41]), (bs [97, 112, 112, 40, 91, 72, 124, 84, 93, 44, 32, 76, 44, 32, 91, 72, 124, 82, 93, 41, 32, 58, 45, 32, 97, 112, 112, 40, 84, 44, 32, 76, 44, 32, 82, 41]), (bs [108, 101, 110, 40, 91, 93, 44, 32, 48, 41]), (bs [108, 101, 110, 40, 91, 95, 124, 84, 93, 44, 32, 78, 41, 32, 58, 45, 32, 108, 101, 110, 40, 84, 44, 32, 77, 41, 44, 32, 78, 32, 105, 115, 32, 77, 32, 43, 32, 49]), (bs [115, 40, 88, 41, 32, 58, 45, 32, 112, 40, 88, 41, 44, 32, 33]), (bs [115, 40, 122, 41]), (bs [116, 40, 88, 41, 32, 58, 45, 32, 40, 112, 40, 88, 41, 32, 45, 62, 32, 116, 114, 117, 101, 32, 59, 32, 88, 32, 61, 32, 110, 111, 110, 101, 41]), (bs [117, 40, 88, 41, 32, 58, 45, 32, 92, 43, 32, 112, 40, 88, 41]), (bs [119, 40, 88, 41, 32, 58, 45, 32, 112, 40, 88, 41, 44, 32, 119, 114, 105, 116, 101, 40, 88, 41]), (bs [99, 40, 88, 41, 32, 58, 45, 32, 99, 97, 116, 99, 104, 40, 112, 40, 88, 41, 44, 32, 95, 44, 32, 116, 114, 117, 101, 41]), (bs [101, 40, 88, 41, 32, 58, 45, 32, 99, 97, 116, 99, 104, 40, 116, 104, 114, 111, 119, 40, 88, 41, 44, 32, 89, 44, 32, 119, 114, 105, 116, 101, 40, 89, 41, 41]), (bs [110, 40, 88, 41, 32, 58, 45, 32, 88, 32, 105, 115, 32, 51, 32, 47, 47, 32, 48]), (bs [109, 40, 88, 41, 32, 58, 45, 32, 99, 97, 116, 99, 104, 40, 110, 40, 88, 41, 44, 32, 101, 114, 114, 111, 114, 40, 69, 44, 32, 95, 41, 44, 32, 40, 88, 32, 61, 32, 69, 41, 41]), (bs [97, 100, 100, 40, 88, 41, 32, 58, 45, 32, 97, 115, 115, 101, 114, 116, 122, 40, 112, 40, 88, 41, 41]), (bs [100, 101, 108, 40, 88, 41, 32, 58, 45, 32, 114, 101, 116, 114, 97, 99, 116, 40, 112, 40, 88, 41, 41]), (bs [108, 111, 111, 112, 32, 58, 45, 32, 108, 111, 111, 112]), (bs [118, 40, 88, 41, 32, 58, 45, 32, 99, 97, 108, 108, 40, 112, 44, 32, 88, 41]), (bs [100, 40, 88, 44, 32, 89, 41, 32, 58, 45, 32, 88, 32, 61, 32, 89, 32, 59, 32, 89, 32, 61, 32, 98]), (bs [103, 40, 102, 40, 88, 41, 44, 32, 88, 41]), (bs [103, 40, 104, 40, 88, 41, 44, 32, 88, 41]), (bs [103, 40, 49, 44, 32, 111, 110, 101, 41]), (bs [107, 40, 88, 41, 32, 58, 45, 32, 117, 110, 107, 110, 111, 119, 110, 40, 88, 41]), (bs [121, 40, 88, 41, 32, 58, 45, 32, 112, 40, 88, 41, 44, 32, 97, 115, 115, 101, 114, 116, 122, 40, 112, 40, 100, 41, 41, 44, 32, 88, 32, 61, 32, 98])])), [(0, .app 9)]))], [], []⟩ (.cons (cl_cons (c := cS) (x := (bs [112, 40, 97, 41])) rfl (cl_cons (c := cS) (x := (bs [112, 40, 98, 41])) rfl (cl_cons (c := cS) (x := (bs [112, 40, 99, 41])) rfl (cl_cons (c := cS) (x := (bs [113, 40, 88, 41, 32, 58, 45, 32, 112, 40, 88, 41])) rfl (cl_cons (c := cS) (x := (bs [113, 40, 122, 41])) rfl (cl_cons (c := cS) (x := (bs [114, 40, 88, 44, 32, 89, 41, 32, 58, 45, 32, 112, 40, 88, 41, 44, 32, 113, 40, 89, 41])) rfl (cl_cons (c := cS) (x := (bs [97, 112, 112, 40, 91, 93, 44, 32, 76, 44, 32, 76, 41])) rfl (cl_cons (c := cS) (x := (bs [97, 112, 112, 40, 91, 72, 124, 84, 93, 44, 32, 76, 44, 32, 91, 72, 124, 82, 93, 41, 32, 58, 45, 32, 97, 112, 112, 40, 84, 44, 32, 76, 44, 32, 82, 41])) rfl (cl_cons (c := cS) (x := (bs [108, 101, 110, 40, 91, 93, 44, 32, 48, 41])) rfl (cl_cons (c := cS) (x := (bs [108, 101, 110, 40, 91, 95, 124, 84, 93, 44, 32, 78, 41, 32, 58, 45, 32, 108, 101, 110, 40, 84, 44, 32, 77, 41, 44, 32, 78, 32, 105, 115, 32, 77, 32, 43, 32, 49])) rfl (cl_cons (c := cS) (x := (bs [115, 40, 88, 41, 32, 58, 45, 32, 112, 40, 88, 41, 44, 32, 33])) rfl (cl_cons (c := cS) (x := (bs [115, 40, 122, 41])) rfl (cl_cons (c := cS) (x := (bs [116, 40, 88, 41, 32, 58, 45, 32, 40, 112, 40, 88, 41, 32, 45, 62, 32, 116, 114, 117, 101, 32, 59, 32, 88, 32, 61, 32, 110, 111, 110, 101, 41])) rfl (cl_cons (c := cS) (x := (bs [117, 40, 88, 41, 32, 58, 45, 32, 92, 43, 32, 112, 40, 88, 41])) rfl (cl_cons (c := cS) (x := (bs [119, 40, 88, 41, 32, 58, 45, 32, 112, 40, 88, 41, 44, 32, 119, 114, 105, 116, 101, 40, 88, 41])) rfl (cl_cons (c := cS) (x := (bs [99, 40, 88, 41, 32, 58, 45, 32, 99, 97, 116, 99, 104, 40, 112, 40, 88, 41, 44, 32, 95, 44, 32, 116, 114, 117, 101, 41])) rfl (cl_cons (c := cS) (x := (bs [101, 40, 88, 41, 32, 58, 45, 32, 99, 97, 116, 99, 104, 40, 116, 104, 114, 111, 119, 40, 88, 41, 44, 32, 89, 44, 32, 119, 114, 105, 116, 101, 40, 89, 41, 41])) rfl (cl_cons (c := cS) (x := (bs [110, 40, 88, 41, 32, 58, 45, 32, 88, 32, 105, 115, 32, 51, 32, 47, 47, 32, 48])) rfl (cl_cons (c := cS) (x := (bs [109, 40, 88, 41, 32, 58, 45, 32, 99, 97, 116, 99, 104, 40, 110, 40, 88, 41, 44, 32, 101, 114, 114, 111, 114, 40, 69, 44, 32, 95, 41, 44, 32, 40, 88, 32, 61, 32, 69, 41, 41])) rfl (cl_cons (c := cS) (x := (bs [97, 100, 100, 40, 88, 41, 32, 58, 45, 32, 97, 115, 115, 101, 114, 116, 122, 40, 112, 40, 88, 41, 41])) rfl (cl_cons (c := cS) (x := (bs [100, 101, 108, 40, 88, 41, 32, 58, 45, 32, 114, 101, 116, 114, 97, 99, 116, 40, 112, 40, 88, 41, 41])) rfl (cl_cons (c := cS) (x := (bs [108, 111, 111, 112, 32, 58, 45, 32, 108, 111, 111, 112])) rfl (cl_cons (c := cS) (x := (bs [118, 40, 88, 41, 32, 58, 45, 32, 99, 97, 108, 108, 40, 112, 44, 32, 88, 41])) rfl (cl_cons (c := cS) (x := (bs [100, 40, 88, 44, 32, 89, 41, 32, 58, 45, 32, 88, 32, 61, 32, 89, 32, 59, 32, 89, 32, 61, 32, 98])) rfl (cl_cons (c := cS) (x := (bs [103, 40, 102, 40, 88, 41, 44, 32, 88, 41])) rfl (cl_cons (c := cS) (x := (bs [103, 40, 104, 40, 88, 41, 44, 32, 88, 41])) rfl (cl_cons (c := cS) (x := (bs [103, 40, 49, 44, 32, 111, 110, 101, 41])) rfl (cl_cons (c := cS) (x := (bs [107, 40, 88, 41, 32, 58, 45, 32, 117, 110, 107, 110, 111, 119, 110, 40, 88, 41])) rfl (cl_cons (c := cS) (x := (bs [121, 40, 88, 41, 32, 58, 45, 32, 112, 40, 88, 41, 44, 32, 97, 115, 115, 101, 114, 116, 122, 40, 112, 40, 100, 41, 41, 44, 32, 88, 32, 61, 32, 98])) rfl (cl_nil cS)))))))))))))))))))))))))))))) .nil) ?_
  obtain rfl := Option.some.inj h; exact Wc.ret dn

def pspec_l01Pick (k : Nat) (u18 : GL01Cur) (u2d : List ByteArray) : Option (GL01Cur × ByteArray) :=
  (pspec_l01Below k u18 (u2d.length : Int)).bind fun ur =>
  (at' u2d ur.2).bind fun u3j =>
  some (ur.1, u3j)
theorem cspec_l01Pick {k : Nat} {u18 : GL01Cur} {u2d : List ByteArray} {r : GL01Cur × ByteArray} (h : pspec_l01Pick k u18 u2d = some r) : FnO Tryz.prog 45 [.p (GL01Cur.q u18) [], .v (.sl (List.map cS u2d)) []] (.v (.str r.2) []) [(0, .p (GL01Cur.q r.1) [])] := by
  refine FnO.o2 Tryz.func45 (rfl : Tryz.f45.body = some _) ?_
  intro w0 X0 Fin pv0 pb gt
  unfold pspec_l01Pick at h
  apply Wc.seq
  refine Wc.r0 ⟨[tP 0 1000000, tV 1 (.sl (List.map cS u2d))], [bC 1000000 (GL01Cur.q u18)], []⟩ ?_
  apply Wc.seq
  obtain ⟨ur, h18, h⟩ := obind h
  obtain ⟨u3j, h19, h⟩ := obind h
  refine Wc.r2 [{}, {}, {}, { v := some (aI (u2d.length : Int)) }, { r := some (.v (aI ur.2) []), outs := [(0, .p (GL01Cur.q ur.1) [])] }, { v := some (.vptr [.str u3j]) }] ⟨[tS 4 u3j], [bC 1000000 (GL01Cur.q ur.1)], []⟩ (.cons (len_obl cS u2d) (.cons (cspec_l01Below h18) (.cons (at_obl (c := cS) rfl cS_len h19) (.cons (len_ok 1 [.str u3j]) .nil)))) ?_
  obtain rfl := Option.some.inj h; exact Wc.ret dn

def pspec_l16Text_L1 (k : Nat) (v7 : (List ByteArray)) : Nat → ByteArray → Int → GL01Cur → Option (Out (GL01Cur × ByteArray) (ByteArray × GL01Cur))
  | 0, _, _, _ => none
  | m + 1, ud, uf, u0z =>
    (pspec_l01Below k u0z 6).bind fun u1l =>
    if (decide (uf < u1l.2)) = true then
      (pspec_l01Below k u1l.1 12).bind fun ur =>
      if (ur.2 == 0) = true then
        if sumOk ud (bs [58, 45, 32, 105, 110, 99, 108, 117, 100, 101, 40, 116, 119, 111, 41, 46, 10]) then
          pspec_l16Text_L1 k v7 m (ud ++ (bs [58, 45, 32, 105, 110, 99, 108, 117, 100, 101, 40, 116, 119, 111, 41, 46, 10])) (wr.i64 (uf + 1)) ur.1
        else none
      else
        if (ur.2 == 1) = true then
          if sumOk ud (bs [58, 45, 32, 105, 102, 40, 112, 40, 97, 41, 41, 46, 10]) then
            (pspec_l01Pick k ur.1 v7).bind fun u1d =>
            if sumOk (ud ++ (bs [58, 45, 32, 105, 102, 40, 112, 40, 97, 41, 41, 46, 10])) u1d.2 then
              if sumOk ((ud ++ (bs [58, 45, 32, 105, 102, 40, 112, 40, 97, 41, 41, 46, 10])) ++ u1d.2) (bs [46, 10, 58, 45, 32, 101, 108, 115, 101, 46, 10, 122, 40, 49, 41, 46, 10, 58, 45, 32, 101, 110, 100, 105, 102, 46, 10]) then
                pspec_l16Text_L1 k v7 m (((ud ++ (bs [58, 45, 32, 105, 102, 40, 112, 40, 97, 41, 41, 46, 10])) ++ u1d.2) ++ (bs [46, 10, 58, 45, 32, 101, 108, 115, 101, 46, 10, 122, 40, 49, 41, 46, 10, 58, 45, 32, 101, 110, 100, 105, 102, 46, 10])) (wr.i64 (uf + 1)) u1d.1
              else none
            else none
          else none
        else
          if (ur.2 == 2) = true then
            if sumOk ud (bs [58, 45, 32, 111, 112, 101, 110, 40, 47, 40, 111, 44, 32, 49, 41, 41, 46, 10]) then
              pspec_l16Text_L1 k v7 m (ud ++ (bs [58, 45, 32, 111, 112, 101, 110, 40, 47, 40, 111, 44, 32, 49, 41, 41, 46, 10])) (wr.i64 (uf + 1)) ur.1
            else none
          else
            if (ur.2 == 3) = true then
              if sumOk ud (bs [115, 32, 45, 45, 62, 32, 91, 97, 93, 44, 32, 115, 46, 10, 115, 32, 45, 45, 62, 32, 91, 93, 46, 10]) then
                pspec_l16Text_L1 k v7 m (ud ++ (bs [115, 32, 45, 45, 62, 32, 91, 97, 93, 44, 32, 115, 46, 10, 115, 32, 45, 45, 62, 32, 91, 93, 46, 10])) (wr.i64 (uf + 1)) ur.1
              else none
            else
              if (ur.2 == 4) = true then
                if sumOk ud (bs [101, 120, 112, 97, 110, 100, 40, 111, 108, 100, 40, 88, 41, 44, 32, 112, 40, 88, 41, 41, 46, 10, 111, 108, 100, 40, 107, 41, 46, 10]) then
                  pspec_l16Text_L1 k v7 m (ud ++ (bs [101, 120, 112, 97, 110, 100, 40, 111, 108, 100, 40, 88, 41, 44, 32, 112, 40, 88, 41, 41, 46, 10, 111, 108, 100, 40, 107, 41, 46, 10])) (wr.i64 (uf + 1)) ur.1
                else none
              else
                if (ur.2 == 5) = true then
                  if sumOk ud (bs [58, 45, 32, 119, 114, 105, 116, 101, 40, 120, 41, 46, 10, 58, 45, 32, 102, 97, 105, 108, 46, 10]) then
                    pspec_l16Text_L1 k v7 m (ud ++ (bs [58, 45, 32, 119, 114, 105, 116, 101, 40, 120, 41, 46, 10, 58, 45, 32, 102, 97, 105, 108, 46, 10])) (wr.i64 (uf + 1)) ur.1
                  else none
                else
                  if (ur.2 == 6) = true then
                    (pspec_l01Pick k ur.1 [(bs [97, 32, 98, 46, 10]), (bs [58, 45, 32, 101, 108, 115, 101, 46, 10]), (bs [58, 45, 32, 105, 102, 40, 116, 114, 117, 101, 41, 46, 10]), (bs [58, 45, 32, 101, 110, 100, 105, 102, 46, 10]), (bs [88, 46, 10]), (bs [116, 114, 117, 101, 46, 10]), (bs [58, 45, 32, 97, 115, 115, 101, 114, 116, 122, 40, 112, 40, 110, 41, 41, 46, 10]), (bs [58, 45, 32, 105, 110, 99, 108, 117, 100, 101, 40, 110, 111, 110, 101, 41, 46, 10])]).bind fun u1m =>
                    if sumOk ud u1m.2 then
                      pspec_l16Text_L1 k v7 m (ud ++ u1m.2) (wr.i64 (uf + 1)) u1m.1
                    else none
                  else
                    (pspec_l01Pick k ur.1 v7).bind fun u1e =>
                    if sumOk ud u1e.2 then
                      if sumOk (ud ++ u1e.2) (bs [46, 10]) then
                        pspec_l16Text_L1 k v7 m ((ud ++ u1e.2) ++ (bs [46, 10])) (wr.i64 (uf + 1)) u1e.1
                      else none
                    else none
    else
      some (.done (ud, u1l.1))
def pspec_l16Text (k : Nat) (vy : GL01Cur) : Option (GL01Cur × ByteArray) :=
  (pspec_l08Lines k).bind fun v7 =>
  (pspec_l16Text_L1 k v7 k (bs []) 0 vy).bind fun out1 => match out1 with
  | .ret r => some r
  | .done (zo, u18) =>
    some (u18, zo)
set_option maxHeartbeats 4000000 in
theorem cspec_l16Text {k : Nat} {vy : GL01Cur} {r : GL01Cur × ByteArray} (h : pspec_l16Text k vy = some r) : FnO Tryz.prog 28 [.p (GL01Cur.q vy) []] (.v (.str r.2) []) [(0, .p (GL01Cur.q r.1) [])] := by
  refine FnO.o2 Tryz.func28 (rfl : Tryz.f28.body = some _) ?_
  intro w0 X0 Fin pv0 pb gt
  unfold pspec_l16Text at h
  apply Wc.seq
  refine Wc.r0 ⟨[tP 0 1000000], [bC 1000000 (GL01Cur.q vy)], []⟩ ?_
  apply Wc.seq
  refine Wc.r0 ⟨[tP 0 1000000, tS 3 (bs [])], [bC 1000000 (GL01Cur.q vy)], []⟩ ?_
  apply Wc.seq
  obtain ⟨v7, h10, h⟩ := obind h
  refine Wc.r2 [{ r := some (.v (.sl (List.map cS v7)) [(0, .app 9)]) }, { tk := [6] }] ⟨[tP 0 1000000, tS 3 (bs []), (4, (.v (.sl (List.map cS v7)), [(0, .app 9)]))], [bC 1000000 (GL01Cur.q vy)], []⟩ (.cons (cspec_l08Lines h10) .nil) ?_
  apply Wc.seq
  apply Wc.seq
  refine Wc.r0 ⟨[tP 0 1000000, tS 3 (bs []), (4, (.v (.sl (List.map cS v7)), [(0, .app 9)])), tI 5 0], [bC 1000000 (GL01Cur.q vy)], []⟩ ?_
  obtain ⟨out1, h11, h⟩ := obind h
  refine Wc.lastJ (fun st => ∃ (zo : ByteArray) (u18 : GL01Cur), out1 = .done (zo, u18) ∧ st = ⟨[tS 3 zo], [bC 1000000 (GL01Cur.q u18)], []⟩) ?_ ?_
  · refine Wc.block ?_
    refine Wc.loop (fun m st => ∃ (ud : ByteArray) (uf : Int) (u0z : GL01Cur), st = ⟨[tP 0 1000000, tS 3 ud, (4, (.v (.sl (List.map cS v7)), [(0, .app 9)])), tI 5 uf], [bC 1000000 (GL01Cur.q u0z)], []⟩ ∧ pspec_l16Text_L1 k v7 m ud uf u0z = some out1) ?_ k ⟨_, _, _, rfl, h11⟩
    rintro m st ⟨ud, uf, u0z, rfl, h11⟩
    cases m with
    | zero => exact (onone h11).elim
    | succ m =>
      apply Wc.seq
      apply Wc.seq
      obtain ⟨u1l, h12, h11⟩ := obind h11
      refine Wc.r2 [{}, {}, { r := some (.v (aI u1l.2) []), outs := [(0, .p (GL01Cur.q u1l.1) [])] }] ⟨[tP 0 1000000, tS 3 ud, (4, (.v (.sl (List.map cS v7)), [(0, .app 9)])), tI 5 uf, tB 10 (decide (uf < u1l.2))], [bC 1000000 (GL01Cur.q u1l.1)], []⟩ (.cons (cspec_l01Below h12) .nil) ?_
      rcases oif h11 with ⟨h13, h11⟩ | ⟨h13, h11⟩
      · refine Wc.cT h13 ?_
        refine Wc.fx [] ⟨[tP 0 1000000, tS 3 ud, (4, (.v (.sl (List.map cS v7)), [(0, .app 9)])), tI 5 uf], [bC 1000000 (GL01Cur.q u1l.1)], []⟩ ?_
        refine Wc.skip ?_
        apply Wc.seq
        refine Wc.block ?_
        apply Wc.seq
        obtain ⟨ur, h14, h11⟩ := obind h11
        refine Wc.r2 [{}, { r := some (.v (aI ur.2) []), outs := [(0, .p (GL01Cur.q ur.1) [])] }] ⟨[tP 0 1000000, tS 3 ud, (4, (.v (.sl (List.map cS v7)), [(0, .app 9)])), tI 5 uf, tI 14 ur.2], [bC 1000000 (GL01Cur.q ur.1)], []⟩ (.cons (cspec_l01Below h14) .nil) ?_
        refine Wc.block ?_
        apply Wc.seq
        refine Wc.r0 ⟨[tP 0 1000000, tS 3 ud, (4, (.v (.sl (List.map cS v7)), [(0, .app 9)])), tI 5 uf, tI 14 ur.2, tB 21 (ur.2 == 0)], [bC 1000000 (GL01Cur.q ur.1)], []⟩ ?_
        rcases oif h11 with ⟨h15, h11⟩ | ⟨h15, h11⟩
        · refine Wc.cT h15 ?_
          obtain ⟨h16, h11⟩ := oguard h11
          refine Wc.r2 [] ⟨[tP 0 1000000, tS 3 (ud ++ (bs [58, 45, 32, 105, 110, 99, 108, 117, 100, 101, 40, 116, 119, 111, 41, 46, 10])), (4, (.v (.sl (List.map cS v7)), [(0, .app 9)])), tI 5 uf], [bC 1000000 (GL01Cur.q ur.1)], []⟩ (.cons h16 .nil) ?_
          refine Wc.r0 ⟨[tP 0 1000000, tS 3 (ud ++ (bs [58, 45, 32, 105, 110, 99, 108, 117, 100, 101, 40, 116, 119, 111, 41, 46, 10])), (4, (.v (.sl (List.map cS v7)), [(0, .app 9)])), tI 5 (wr.i64 (uf + 1))], [bC 1000000 (GL01Cur.q ur.1)], []⟩ ?_
          exact ⟨_, Nat.lt_succ_self _, _, _, _, rfl, h11⟩
        · refine Wc.cF h15 ?_
          apply Wc.seq
          refine Wc.r0 ⟨[tP 0 1000000, tS 3 ud, (4, (.v (.sl (List.map cS v7)), [(0, .app 9)])), tI 5 uf, tI 14 ur.2, tB 25 (ur.2 == 1)], [bC 1000000 (GL01Cur.q ur.1)], []⟩ ?_
          rcases oif h11 with ⟨h17, h11⟩ | ⟨h17, h11⟩
          · refine Wc.cT h17 ?_
            obtain ⟨h18, h11⟩ := oguard h11
            obtain ⟨u1d, h19, h11⟩ := obind h11
            obtain ⟨h20, h11⟩ := oguard h11
            obtain ⟨h21, h11⟩ := oguard h11
            refine Wc.r2 [{}, {}, {}, {}, { r := some (.v (.str u1d.2) []), outs := [(0, .p (GL01Cur.q u1d.1) [])] }] ⟨[tP 0 1000000, tS 3 (((ud ++ (bs [58, 45, 32, 105, 102, 40, 112, 40, 97, 41, 41, 46, 10])) ++ u1d.2) ++ (bs [46, 10, 58, 45, 32, 101, 108, 115, 101, 46, 10, 122, 40, 49, 41, 46, 10, 58, 45, 32, 101, 110, 100, 105, 102, 46, 10])), (4, (.v (.sl (List.map cS v7)), [(0, .app 9)])), tI 5 uf], [bC 1000000 (GL01Cur.q u1d.1)], []⟩ (.cons h18 (.cons (cspec_l01Pick h19) (.cons h20 (.cons h21 .nil)))) ?_
            refine Wc.r0 ⟨[tP 0 1000000, tS 3 (((ud ++ (bs [58, 45, 32, 105, 102, 40, 112, 40, 97, 41, 41, 46, 10])) ++ u1d.2) ++ (bs [46, 10, 58, 45, 32, 101, 108, 115, 101, 46, 10, 122, 40, 49, 41, 46, 10, 58, 45, 32, 101, 110, 100, 105, 102, 46, 10])), (4, (.v (.sl (List.map cS v7)), [(0, .app 9)])), tI 5 (wr.i64 (uf + 1))], [bC 1000000 (GL01Cur.q u1d.1)], []⟩ ?_
            exact ⟨_, Nat.lt_succ_self _, _, _, _, rfl, h11⟩
          · refine Wc.cF h17 ?_
            apply Wc.seq
            refine Wc.r0 ⟨[tP 0 1000000, tS 3 ud, (4, (.v (.sl (List.map cS v7)), [(0, .app 9)])), tI 5 uf, tI 14 ur.2, tB 34 (ur.2 == 2)], [bC 1000000 (GL01Cur.q ur.1)], []⟩ ?_
            rcases oif h11 with ⟨h22, h11⟩ | ⟨h22, h11⟩
            · refine Wc.cT h22 ?_
              obtain ⟨h23, h11⟩ := oguard h11
              refine Wc.r2 [] ⟨[tP 0 1000000, tS 3 (ud ++ (bs [58, 45, 32, 111, 112, 101, 110, 40, 47, 40, 111, 44, 32, 49, 41, 41, 46, 10])), (4, (.v (.sl (List.map cS v7)), [(0, .app 9)])), tI 5 uf], [bC 1000000 (GL01Cur.q ur.1)], []⟩ (.cons h23 .nil) ?_
              refine Wc.r0 ⟨[tP 0 1000000, tS 3 (ud ++ (bs [58, 45, 32, 111, 112, 101, 110, 40, 47, 40, 111, 44, 32, 49, 41, 41, 46, 10])), (4, (.v (.sl (List.map cS v7)), [(0, .app 9)])), tI 5 (wr.i64 (uf + 1))], [bC 1000000 (GL01Cur.q ur.1)], []⟩ ?_
              exact ⟨_, Nat.lt_succ_self _, _, _, _, rfl, h11⟩
            · refine Wc.cF h22 ?_
              apply Wc.seq
              refine Wc.r0 ⟨[tP 0 1000000, tS 3 ud, (4, (.v (.sl (List.map cS v7)), [(0, .app 9)])), tI 5 uf, tI 14 ur.2, tB 38 (ur.2 == 3)], [bC 1000000 (GL01Cur.q ur.1)], []⟩ ?_
              rcases oif h11 with ⟨h24, h11⟩ | ⟨h24, h11⟩
              · refine Wc.cT h24 ?_
                obtain ⟨h25, h11⟩ := oguard h11
                refine Wc.r2 [] ⟨[tP 0 1000000, tS 3 (ud ++ (bs [115, 32, 45, 45, 62, 32, 91, 97, 93, 44, 32, 115, 46, 10, 115, 32, 45, 45, 62, 32, 91, 93, 46, 10])), (4, (.v (.sl (List.map cS v7)), [(0, .app 9)])), tI 5 uf], [bC 1000000 (GL01Cur.q ur.1)], []⟩ (.cons h25 .nil) ?_
                refine Wc.r0 ⟨[tP 0 1000000, tS 3 (ud ++ (bs [115, 32, 45, 45, 62, 32, 91, 97, 93, 44, 32, 115, 46, 10, 115, 32, 45, 45, 62, 32, 91, 93, 46, 10])), (4, (.v (.sl (List.map cS v7)), [(0, .app 9)])), tI 5 (wr.i64 (uf + 1))], [bC 1000000 (GL01Cur.q ur.1)], []⟩ ?_
                exact ⟨_, Nat.lt_succ_self _, _, _, _, rfl, h11⟩
              · refine Wc.cF h24 ?_
                apply Wc.seq
                refine Wc.r0 ⟨[tP 0 1000000, tS 3 ud, (4, (.v (.sl (List.map cS v7)), [(0, .app 9)])), tI 5 uf, tI 14 ur.2, tB 42 (ur.2 == 4)], [bC 1000000 (GL01Cur.q ur.1)], []⟩ ?_
                rcases oif h11 with ⟨h26, h11⟩ | ⟨h26, h11⟩
                · refine Wc.cT h26 ?_
                  obtain ⟨h27, h11⟩ := oguard h11
                  refine Wc.r2 [] ⟨[tP 0 1000000, tS 3 (ud ++ (bs [101, 120, 112, 97, 110, 100, 40, 111, 108, 100, 40, 88, 41, 44, 32, 112, 40, 88, 41, 41, 46, 10, 111, 108, 100, 40, 107, 41, 46, 10])), (4, (.v (.sl (List.map cS v7)), [(0, .app 9)])), tI 5 uf], [bC 1000000 (GL01Cur.q ur.1)], []⟩ (.cons h27 .nil) ?_
                  refine Wc.r0 ⟨[tP 0 1000000, tS 3 (ud ++ (bs [101, 120, 112, 97, 110, 100, 40, 111, 108, 100, 40, 88, 41, 44, 32, 112, 40, 88, 41, 41, 46, 10, 111, 108, 100, 40, 107, 41, 46, 10])), (4, (.v (.sl (List.map cS v7)), [(0, .app 9)])), tI 5 (wr.i64 (uf + 1))], [bC 1000000 (GL01Cur.q ur.1)], []⟩ ?_
                  exact ⟨_, Nat.lt_succ_self _, _, _, _, rfl, h11⟩
                · refine Wc.cF h26 ?_
                  apply Wc.seq
                  refine Wc.r0 ⟨[tP 0 1000000, tS 3 ud, (4, (.v (.sl (List.map cS v7)), [(0, .app 9)])), tI 5 uf, tI 14 ur.2, tB 46 (ur.2 == 5)], [bC 1000000 (GL01Cur.q ur.1)], []⟩ ?_
                  rcases oif h11 with ⟨h28, h11⟩ | ⟨h28, h11⟩
                  · refine Wc.cT h28 ?_
                    obtain ⟨h29, h11⟩ := oguard h11
                    refine Wc.r2 [] ⟨[tP 0 1000000, tS 3 (ud ++ (bs [58, 45, 32, 119, 114, 105, 116, 101, 40, 120, 41, 46, 10, 58, 45, 32, 102, 97, 105, 108, 46, 10])), (4, (.v (.sl (List.map cS v7)), [(0, .app 9)])), tI 5 uf], [bC 1000000 (GL01Cur.q ur.1)], []⟩ (.cons h29 .nil) ?_
                    refine Wc.r0 ⟨[tP 0 1000000, tS 3 (ud ++ (bs [58, 45, 32, 119, 114, 105, 116, 101, 40, 120, 41, 46, 10, 58, 45, 32, 102, 97, 105, 108, 46, 10])), (4, (.v (.sl (List.map cS v7)), [(0, .app 9)])), tI 5 (wr.i64 (uf + 1))], [bC 1000000 (GL01Cur.q ur.1)], []⟩ ?_
                    exact ⟨_, Nat.lt_succ_self _, _, _, _, rfl, h11⟩
                  · refine Wc.cF h28 ?_
                    apply Wc.seq
                    refine Wc.r0 ⟨[tP 0 1000000, tS 3 ud, (4, (.v (.sl (List.map cS v7)), [(0, .app 9)])), tI 5 uf, tB 50 (ur.2 == 6)], [bC 1000000 (GL01Cur.q ur.1)], []⟩ ?_
                    rcases oif h11 with ⟨h30, h11⟩ | ⟨h30, h11⟩
                    · refine Wc.cT h30 ?_
                      obtain ⟨u1m, h31, h11⟩ := obind h11
                      obtain ⟨h32, h11⟩ := oguard h11
                      refine Wc.r2 [{}, {}, { c := some (List.map cS [(bs [97, 32, 98, 46, 10]), (bs [58, 45, 32, 101, 108, 115, 101, 46, 10]), (bs [58, 45, 32, 105, 102, 40, 116, 114, 117, 101, 41, 46, 10]), (bs [58, 45, 32, 101, 110, 100, 105, 102, 46, 10]), (bs [88, 46, 10]), (bs [116, 114, 117, 101, 46, 10]), (bs [58, 45, 32, 97, 115, 115, 101, 114, 116, 122, 40, 112, 40, 110, 41, 41, 46, 10]), (bs [58, 45, 32, 105, 110, 99, 108, 117, 100, 101, 40, 110, 111, 110, 101, 41, 46, 10])]) }, { r := some (.v (.str u1m.2) []), outs := [(0, .p (GL01Cur.q u1m.1) [])] }] ⟨[tP 0 1000000, tS 3 (ud ++ u1m.2), (4, (.v (.sl (List.map cS v7)), [(0, .app 9)])), tI 5 uf], [bC 1000000 (GL01Cur.q u1m.1)], []⟩ (.cons (cl_cons (c := cS) (x := (bs [97, 32, 98, 46, 10])) rfl (cl_cons (c := cS) (x := (bs [58, 45, 32, 101, 108, 115, 101, 46, 10])) rfl (cl_cons (c := cS) (x := (bs [58, 45, 32, 105, 102, 40, 116, 114, 117, 101, 41, 46, 10])) rfl (cl_cons (c := cS) (x := (bs [58, 45, 32, 101, 110, 100, 105, 102, 46, 10])) rfl (cl_cons (c := cS) (x := (bs [88, 46, 10])) rfl (cl_cons (c := cS) (x := (bs [116, 114, 117, 101, 46, 10])) rfl (cl_cons (c := cS) (x := (bs [58, 45, 32, 97, 115, 115, 101, 114, 116, 122, 40, 112, 40, 110, 41, 41, 46, 10])) rfl (cl_cons (c := cS) (x := (bs [58, 45, 32, 105, 110, 99, 108, 117, 100, 101, 40, 110, 111, 110, 101, 41, 46, 10])) rfl (cl_nil cS))))))))) (.cons (cspec_l01Pick h31) (.cons h32 .nil))) ?_
                      refine Wc.r0 ⟨[tP 0 1000000, tS 3 (ud ++ u1m.2), (4, (.v (.sl (List.map cS v7)), [(0, .app 9)])), tI 5 (wr.i64 (uf + 1))], [bC 1000000 (GL01Cur.q u1m.1)], []⟩ ?_
                      exact ⟨_, Nat.lt_succ_self _, _, _, _, rfl, h11⟩
                    · refine Wc.cF h30 ?_
                      obtain ⟨u1e, h33, h11⟩ := obind h11
                      obtain ⟨h34, h11⟩ := oguard h11
                      obtain ⟨h35, h11⟩ := oguard h11
                      refine Wc.r2 [{}, {}, {}, { r := some (.v (.str u1e.2) []), outs := [(0, .p (GL01Cur.q u1e.1) [])] }] ⟨[tP 0 1000000, tS 3 ((ud ++ u1e.2) ++ (bs [46, 10])), (4, (.v (.sl (List.map cS v7)), [(0, .app 9)])), tI 5 uf], [bC 1000000 (GL01Cur.q u1e.1)], []⟩ (.cons (cspec_l01Pick h33) (.cons h34 (.cons h35 .nil))) ?_
                      refine Wc.r0 ⟨[tP 0 1000000, tS 3 ((ud ++ u1e.2) ++ (bs [46, 10])), (4, (.v (.sl (List.map cS v7)), [(0, .app 9)])), tI 5 (wr.i64 (uf + 1))], [bC 1000000 (GL01Cur.q u1e.1)], []⟩ ?_
                      exact ⟨_, Nat.lt_succ_self _, _, _, _, rfl, h11⟩
      · refine Wc.cF h13 ?_
        refine Wc.fx [] ⟨[tS 3 ud], [bC 1000000 (GL01Cur.q u1l.1)], []⟩ ?_
        refine Wc.exit ?_
        obtain rfl := Option.some.inj h11
        exact ⟨_, _, rfl, rfl⟩
  · rintro st ⟨zo, u18, rfl, rfl⟩
    apply Wc.seq
    refine Wc.r0 ⟨[tS 2 zo], [bC 1000000 (GL01Cur.q u18)], []⟩ ?_
    obtain rfl := Option.some.inj h; exact Wc.ret dn

def pspec_Stored_J2 (k : Nat) (bk_ : (List GFile) → Bool → Int → Option (Out ((List GFile) × Bool) ((List GFile) × Bool))) (vf : List GFile) (uh : ByteArray) (uj : ByteArray) (uu : List GFile) (vs : Int) (u00 : Bool) (u1f : Bool) : Option (Out ((List GFile) × Bool) ((List GFile) × Bool)) :=
  if u1f = true then
    if vf.length + [GFile.mk uh uj].length ≤ 1073741824 then
      (at' uu vs).bind fun u2e =>
      if (sEq u2e.gName uh) = true then
        bk_ (vf ++ [GFile.mk uh uj]) true (wr.i64 (vs + 1))
      else
        (at' uu vs).bind fun u09 =>
        if (vf ++ [GFile.mk uh uj]).length + [u09].length ≤ 1073741824 then
          bk_ ((vf ++ [GFile.mk uh uj]) ++ [u09]) true (wr.i64 (vs + 1))
        else none
    else none
  else
    (at' uu vs).bind fun u0a =>
    if vf.length + [u0a].length ≤ 1073741824 then
      bk_ (vf ++ [u0a]) u00 (wr.i64 (vs + 1))
    else none
def pspec_Stored_L1 (k : Nat) (uu : List GFile) (uh : ByteArray) (uj : ByteArray) : Nat → (List GFile) → Bool → Int → Option (Out ((List GFile) × Bool) ((List GFile) × Bool))
  | 0, _, _, _ => none
  | m + 1, vf, u00, vs =>
    if (decide (vs < (uu.length : Int))) = true then
      if (!u00) = true then
        (at' uu vs).bind fun u2f =>
        pspec_Stored_J2 k (pspec_Stored_L1 k uu uh uj m) vf uh uj uu vs u00 (!(sLt u2f.gName uh))
      else
        pspec_Stored_J2 k (pspec_Stored_L1 k uu uh uj m) vf uh uj uu vs u00 false
    else
      some (.done (vf, u00))
def pspec_Stored_J3 (k : Nat) (uu : List GFile) (u1n : List GFile) : Option ((List GFile) × Bool) :=
  (pspec_FilesOk k u1n).bind fun u48 =>
  if (!u48) = true then
    none
  else
    (pspec_FilesOk k uu).bind fun u49 =>
    if (!u49) = true then
      none
    else
      some (u1n, true)
def pspec_Stored (k : Nat) (uu : List GFile) (uh : ByteArray) (uj : ByteArray) : Option ((List GFile) × Bool) :=
  (pspec_Stored_L1 k uu uh uj k [] false 0).bind fun out1 => match out1 with
  | .ret r => some r
  | .done (u10, u31) =>
    if (!u31) = true then
      if u10.length + [GFile.mk uh uj].length ≤ 1073741824 then
        pspec_Stored_J3 k uu (u10 ++ [GFile.mk uh uj])
      else none
    else
      pspec_Stored_J3 k uu u10
set_option maxHeartbeats 4000000 in
theorem cspec_Stored {k : Nat} {uu : List GFile} {uh : ByteArray} {uj : ByteArray} {r : (List GFile) × Bool} (h : pspec_Stored k uu uh uj = some r) : FnO Tryz.prog 8 [.v (.sl (List.map GFile.c uu)) [], .v (.str uh) [], .v (.str uj) []] (.v (.tup [.sl (List.map GFile.c r.1), .bool r.2]) [(0, .app 52)]) [] := by
  refine FnO.o2 Tryz.func8 (rfl : Tryz.f8.body = some _) ?_
  intro w0 X0 Fin pv0 pb gt
  unfold pspec_Stored at h
  apply Wc.seq
  refine Wc.r0 ⟨[tV 0 (.sl (List.map GFile.c uu)), tS 1 uh, tS 2 uj], [], []⟩ ?_
  apply Wc.seq
  refine Wc.r2 [{ c := some (List.map GFile.c []) }, { tk := [11] }] ⟨[tV 0 (.sl (List.map GFile.c uu)), tS 1 uh, tS 2 uj, (8, (.v (.sl (List.map GFile.c [])), [(0, .app 52)]))], [], []⟩ (.cons (cl_nil GFile.c) .nil) ?_
  apply Wc.seq
  refine Wc.r0 ⟨[tV 0 (.sl (List.map GFile.c uu)), tS 1 uh, tS 2 uj, (8, (.v (.sl (List.map GFile.c [])), [(0, .app 52)])), tB 9 false], [], []⟩ ?_
  apply Wc.seq
  apply Wc.seq
  refine Wc.r0 ⟨[tV 0 (.sl (List.map GFile.c uu)), tS 1 uh, tS 2 uj, (8, (.v (.sl (List.map GFile.c [])), [(0, .app 52)])), tB 9 false, tI 10 0], [], []⟩ ?_
  obtain ⟨out1, h55, h⟩ := obind h
  refine Wc.lastJ (fun st => ∃ (u10 : List GFile) (u31 : Bool), out1 = .done (u10, u31) ∧ st = ⟨[tV 0 (.sl (List.map GFile.c uu)), tS 1 uh, tS 2 uj, (8, (.v (.sl (List.map GFile.c u10)), [(0, .app 52)])), tB 9 u31], [], []⟩) ?_ ?_
  · refine Wc.block ?_
    refine Wc.loop (fun m st => ∃ (vf : List GFile) (u00 : Bool) (vs : Int), st = ⟨[tV 0 (.sl (List.map GFile.c uu)), tS 1 uh, tS 2 uj, (8, (.v (.sl (List.map GFile.c vf)), [(0, .app 52)])), tB 9 u00, tI 10 vs], [], []⟩ ∧ pspec_Stored_L1 k uu uh uj m vf u00 vs = some out1) ?_ k ⟨_, _, _, rfl, h55⟩
    rintro m st ⟨vf, u00, vs, rfl, h55⟩
    cases m with
    | zero => exact (onone h55).elim
    | succ m =>
      apply Wc.seq
      apply Wc.seq
      refine Wc.r2 [{}, {}, { v := some (aI (uu.length : Int)) }] ⟨[tV 0 (.sl (List.map GFile.c uu)), tS 1 uh, tS 2 uj, (8, (.v (.sl (List.map GFile.c vf)), [(0, .app 52)])), tB 9 u00, tI 10 vs, tB 15 (decide (vs < (uu.length : Int)))], [], []⟩ (.cons (len_obl GFile.c uu) .nil) ?_
      rcases oif h55 with ⟨h56, h55⟩ | ⟨h56, h55⟩
      · refine Wc.cT h56 ?_
        refine Wc.fx [] ⟨[tV 0 (.sl (List.map GFile.c uu)), tS 1 uh, tS 2 uj, (8, (.v (.sl (List.map GFile.c vf)), [(0, .app 52)])), tB 9 u00, tI 10 vs], [], []⟩ ?_
        refine Wc.skip ?_
        apply Wc.seq
        refine Wc.block ?_
        apply Wc.seq
        refine Wc.seqJ (fun st => ∃ (u1f : Bool), st = ⟨[tV 0 (.sl (List.map GFile.c uu)), tS 1 uh, tS 2 uj, (8, (.v (.sl (List.map GFile.c vf)), [(0, .app 52)])), tB 9 u00, tI 10 vs, tB 28 u1f], [], []⟩ ∧ pspec_Stored_J2 k (pspec_Stored_L1 k uu uh uj m) vf uh uj uu vs u00 u1f = some out1) ?_ ?_
        · rcases oif h55 with ⟨h65, h55⟩ | ⟨h65, h55⟩
          · obtain ⟨u2f, h66, h55⟩ := obind h55
            refine Wc.r2 [{}, {}, { re := some (.bool true) }, {}, {}, { v := some (.vptr [.str u2f.gName, .str u2f.gText]) }] ⟨[tV 0 (.sl (List.map GFile.c uu)), tS 1 uh, tS 2 uj, (8, (.v (.sl (List.map GFile.c vf)), [(0, .app 52)])), tB 9 u00, tI 10 vs, tB 28 (!(sLt u2f.gName uh))], [], []⟩ (.cons (congrArg AV.bool h65) (.cons (at_obl (c := GFile.c) (GFile.c_eq u2f) GFile.c_len h66) (.cons (len_ok 1 [.str u2f.gName, .str u2f.gText]) .nil))) ?_
            exact ⟨_, rfl, h55⟩
          · refine Wc.r2 [{}, {}, { re := some (.bool false) }] ⟨[tV 0 (.sl (List.map GFile.c uu)), tS 1 uh, tS 2 uj, (8, (.v (.sl (List.map GFile.c vf)), [(0, .app 52)])), tB 9 u00, tI 10 vs, tB 28 false], [], []⟩ (.cons (congrArg AV.bool h65) .nil) ?_
            exact ⟨_, rfl, h55⟩
        · rintro st ⟨u1f, rfl, h55⟩
          rcases oif h55 with ⟨h57, h55⟩ | ⟨h57, h55⟩
          · refine Wc.cT h57 ?_
            apply Wc.seq
            obtain ⟨h58, h55⟩ := oguard h55
            refine Wc.r2 [{ tk := [8] }, {}, {}, {}, { c := some (List.map GFile.c [GFile.mk uh uj]) }, { c := some (List.map GFile.c (vf ++ [GFile.mk uh uj])), tk := [29] }, { tk := [34] }] ⟨[tV 0 (.sl (List.map GFile.c uu)), tS 1 uh, tS 2 uj, (8, (.v (.sl (List.map GFile.c (vf ++ [GFile.mk uh uj]))), [(0, .app 52)])), tI 10 vs], [], []⟩ (.cons (cl_cons (c := GFile.c) (x := GFile.mk uh uj) (GFile.c_eq (GFile.mk uh uj)) (cl_nil GFile.c)) (.cons (app_re2 GFile.c vf [GFile.mk uh uj]) (.cons (app_leaf (c := GFile.c) (ys := [GFile.mk uh uj]) GFile.c_leaf) (.cons (app_obl2 (c := GFile.c) (xs := vf) (ys := [GFile.mk uh uj]) GFile.c_len h58) .nil)))) ?_
            apply Wc.seq
            refine Wc.r0 ⟨[tV 0 (.sl (List.map GFile.c uu)), tS 1 uh, tS 2 uj, (8, (.v (.sl (List.map GFile.c (vf ++ [GFile.mk uh uj]))), [(0, .app 52)])), tB 9 true, tI 10 vs], [], []⟩ ?_
            apply Wc.seq
            obtain ⟨u2e, h59, h55⟩ := obind h55
            refine Wc.r2 [{}, {}, { v := some (.vptr [.str u2e.gName, .str u2e.gText]) }] ⟨[tV 0 (.sl (List.map GFile.c uu)), tS 1 uh, tS 2 uj, (8, (.v (.sl (List.map GFile.c (vf ++ [GFile.mk uh uj]))), [(0, .app 52)])), tB 9 true, tI 10 vs, tB 41 (sEq u2e.gName uh)], [], []⟩ (.cons (at_obl (c := GFile.c) (GFile.c_eq u2e) GFile.c_len h59) (.cons (len_ok 1 [.str u2e.gName, .str u2e.gText]) .nil)) ?_
            rcases oif h55 with ⟨h60, h55⟩ | ⟨h60, h55⟩
            · refine Wc.cT h60 ?_
              refine Wc.fx [] ⟨[tV 0 (.sl (List.map GFile.c uu)), tS 1 uh, tS 2 uj, (8, (.v (.sl (List.map GFile.c (vf ++ [GFile.mk uh uj]))), [(0, .app 52)])), tB 9 true, tI 10 vs], [], []⟩ ?_
              refine Wc.exit ?_
              refine Wc.r0 ⟨[tV 0 (.sl (List.map GFile.c uu)), tS 1 uh, tS 2 uj, (8, (.v (.sl (List.map GFile.c (vf ++ [GFile.mk uh uj]))), [(0, .app 52)])), tB 9 true, tI 10 (wr.i64 (vs + 1))], [], []⟩ ?_
              exact ⟨_, Nat.lt_succ_self _, _, _, _, rfl, h55⟩
            · refine Wc.cF h60 ?_
              refine Wc.fx [] ⟨[tV 0 (.sl (List.map GFile.c uu)), tS 1 uh, tS 2 uj, (8, (.v (.sl (List.map GFile.c (vf ++ [GFile.mk uh uj]))), [(0, .app 52)])), tB 9 true, tI 10 vs], [], []⟩ ?_
              refine Wc.skip ?_
              obtain ⟨u09, h61, h55⟩ := obind h55
              obtain ⟨h62, h55⟩ := oguard h55
              refine Wc.r2 [{ tk := [8] }, {}, {}, { v := some (.vptr [.str u09.gName, .str u09.gText]) }, {}, { c := some (List.map GFile.c [u09]) }, { c := some (List.map GFile.c ((vf ++ [GFile.mk uh uj]) ++ [u09])), tk := [42] }, { tk := [48] }] ⟨[tV 0 (.sl (List.map GFile.c uu)), tS 1 uh, tS 2 uj, (8, (.v (.sl (List.map GFile.c ((vf ++ [GFile.mk uh uj]) ++ [u09]))), [(0, .app 52)])), tB 9 true, tI 10 vs], [], []⟩ (.cons (at_obl (c := GFile.c) (GFile.c_eq u09) GFile.c_len h61) (.cons (len_ok 2 [.str u09.gName, .str u09.gText]) (.cons (cl_cons (c := GFile.c) (x := u09) (GFile.c_eq u09) (cl_nil GFile.c)) (.cons (app_re2 GFile.c (vf ++ [GFile.mk uh uj]) [u09]) (.cons (app_leaf (c := GFile.c) (ys := [u09]) GFile.c_leaf) (.cons (app_obl2 (c := GFile.c) (xs := (vf ++ [GFile.mk uh uj])) (ys := [u09]) GFile.c_len h62) .nil)))))) ?_
              refine Wc.r0 ⟨[tV 0 (.sl (List.map GFile.c uu)), tS 1 uh, tS 2 uj, (8, (.v (.sl (List.map GFile.c ((vf ++ [GFile.mk uh uj]) ++ [u09]))), [(0, .app 52)])), tB 9 true, tI 10 (wr.i64 (vs + 1))], [], []⟩ ?_
              exact ⟨_, Nat.lt_succ_self _, _, _, _, rfl, h55⟩
          · refine Wc.cF h57 ?_
            refine Wc.fx [] ⟨[tV 0 (.sl (List.map GFile.c uu)), tS 1 uh, tS 2 uj, (8, (.v (.sl (List.map GFile.c vf)), [(0, .app 52)])), tB 9 u00, tI 10 vs], [], []⟩ ?_
            refine Wc.skip ?_
            obtain ⟨u0a, h63, h55⟩ := obind h55
            obtain ⟨h64, h55⟩ := oguard h55
            refine Wc.r2 [{ tk := [8] }, {}, {}, { v := some (.vptr [.str u0a.gName, .str u0a.gText]) }, {}, { c := some (List.map GFile.c [u0a]) }, { c := some (List.map GFile.c (vf ++ [u0a])), tk := [42] }, { tk := [48] }] ⟨[tV 0 (.sl (List.map GFile.c uu)), tS 1 uh, tS 2 uj, (8, (.v (.sl (List.map GFile.c (vf ++ [u0a]))), [(0, .app 52)])), tB 9 u00, tI 10 vs], [], []⟩ (.cons (at_obl (c := GFile.c) (GFile.c_eq u0a) GFile.c_len h63) (.cons (len_ok 2 [.str u0a.gName, .str u0a.gText]) (.cons (cl_cons (c := GFile.c) (x := u0a) (GFile.c_eq u0a) (cl_nil GFile.c)) (.cons (app_re2 GFile.c vf [u0a]) (.cons (app_leaf (c := GFile.c) (ys := [u0a]) GFile.c_leaf) (.cons (app_obl2 (c := GFile.c) (xs := vf) (ys := [u0a]) GFile.c_len h64) .nil)))))) ?_
            refine Wc.r0 ⟨[tV 0 (.sl (List.map GFile.c uu)), tS 1 uh, tS 2 uj, (8, (.v (.sl (List.map GFile.c (vf ++ [u0a]))), [(0, .app 52)])), tB 9 u00, tI 10 (wr.i64 (vs + 1))], [], []⟩ ?_
            exact ⟨_, Nat.lt_succ_self _, _, _, _, rfl, h55⟩
      · refine Wc.cF h56 ?_
        refine Wc.fx [] ⟨[tV 0 (.sl (List.map GFile.c uu)), tS 1 uh, tS 2 uj, (8, (.v (.sl (List.map GFile.c vf)), [(0, .app 52)])), tB 9 u00], [], []⟩ ?_
        refine Wc.exit ?_
        obtain rfl := Option.some.inj h55
        exact ⟨_, _, rfl, rfl⟩
  · rintro st ⟨u10, u31, rfl, rfl⟩
    refine Wc.seqJ (fun st => ∃ (u1n : List GFile), st = ⟨[tV 0 (.sl (List.map GFile.c uu)), (8, (.v (.sl (List.map GFile.c u1n)), [(0, .app 52)]))], [], []⟩ ∧ pspec_Stored_J3 k uu u1n = some r) ?_ ?_
    · apply Wc.seq
      refine Wc.r0 ⟨[tV 0 (.sl (List.map GFile.c uu)), tS 1 uh, tS 2 uj, (8, (.v (.sl (List.map GFile.c u10)), [(0, .app 52)])), tB 50 (!u31)], [], []⟩ ?_
      rcases oif h with ⟨h71, h⟩ | ⟨h71, h⟩
      · refine Wc.cT h71 ?_
        obtain ⟨h72, h⟩ := oguard h
        refine Wc.r2 [{ tk := [8] }, {}, {}, {}, { c := some (List.map GFile.c [GFile.mk uh uj]) }, { c := some (List.map GFile.c (u10 ++ [GFile.mk uh uj])), tk := [51] }, { tk := [56] }] ⟨[tV 0 (.sl (List.map GFile.c uu)), (8, (.v (.sl (List.map GFile.c (u10 ++ [GFile.mk uh uj]))), [(0, .app 52)]))], [], []⟩ (.cons (cl_cons (c := GFile.c) (x := GFile.mk uh uj) (GFile.c_eq (GFile.mk uh uj)) (cl_nil GFile.c)) (.cons (app_re2 GFile.c u10 [GFile.mk uh uj]) (.cons (app_leaf (c := GFile.c) (ys := [GFile.mk uh uj]) GFile.c_leaf) (.cons (app_obl2 (c := GFile.c) (xs := u10) (ys := [GFile.mk uh uj]) GFile.c_len h72) .nil)))) ?_
        exact ⟨_, rfl, h⟩
      · refine Wc.cF h71 ?_
        refine Wc.fx [] ⟨[tV 0 (.sl (List.map GFile.c uu)), (8, (.v (.sl (List.map GFile.c u10)), [(0, .app 52)]))], [], []⟩ ?_
        refine Wc.skip ?_
        exact ⟨_, rfl, h⟩
    · rintro st ⟨u1n, rfl, h⟩
      apply Wc.seq
      apply Wc.seq
      obtain ⟨u48, h67, h⟩ := obind h
      rcases oif h with ⟨h68, h⟩ | ⟨h68, h⟩
      · refine Wc.r2 [{}, { r := some (.v (.bool u48) []) }, {}, { re := some (.bool true) }] ⟨[(8, (.v (.sl (List.map GFile.c u1n)), [(0, .app 52)])), tB 64 true], [], []⟩ (.cons (cspec_FilesOk h67) (.cons (congrArg AV.bool h68) .nil)) ?_
        refine Wc.cT rfl ?_
        exact (onone h).elim
      · obtain ⟨u49, h69, h⟩ := obind h
        refine Wc.r2 [{}, { r := some (.v (.bool u48) []) }, {}, { re := some (.bool false) }, {}, { r := some (.v (.bool u49) []) }] ⟨[(8, (.v (.sl (List.map GFile.c u1n)), [(0, .app 52)])), tB 64 (!u49)], [], []⟩ (.cons (cspec_FilesOk h67) (.cons (congrArg AV.bool h68) (.cons (cspec_FilesOk h69) .nil))) ?_
        rcases oif h with ⟨h70, h⟩ | ⟨h70, h⟩
        · refine Wc.cT h70 ?_
          exact (onone h).elim
        · refine Wc.cF h70 ?_
          refine Wc.fx [] ⟨[(8, (.v (.sl (List.map GFile.c u1n)), [(0, .app 52)]))], [], []⟩ ?_
          refine Wc.skip ?_
          apply Wc.seq
          refine Wc.r1 [{ tk := [8] }, { tk := [68] }] ⟨[(6, (.v (.sl (List.map GFile.c u1n)), [(0, .app 52)])), tB 7 true], [], []⟩ ?_
          obtain rfl := Option.some.inj h; exact Wc.ret dn

def pspec_l16Files_L1 (k : Nat) : Nat → (List GFile) → Int → GL01Cur → Option (Out (GL01Cur × (List GFile)) ((List GFile) × GL01Cur))
  | 0, _, _, _ => none
  | m + 1, u11, z2, u0k =>
    if (decide (z2 < ([(bs [111, 110, 101]), (bs [116, 119, 111]), (bs [122, 111, 111])].length : Int))) = true then
      (pspec_l01Once k u0k 4).bind fun u1o =>
      if (!u1o.2) = true then
        (at' [(bs [111, 110, 101]), (bs [116, 119, 111]), (bs [122, 111, 111])] z2).bind fun ud =>
        (pspec_l16Text k u1o.1).bind fun u2o =>
        (pspec_Stored k u11 ud u2o.2).bind fun u32 =>
        pspec_l16Files_L1 k m u32.1 (wr.i64 (z2 + 1)) u2o.1
      else
        pspec_l16Files_L1 k m u11 (wr.i64 (z2 + 1)) u1o.1
    else
      some (.done (u11, u0k))
def pspec_l16Files (k : Nat) (u24 : GL01Cur) : Option (GL01Cur × (List GFile)) :=
  (pspec_l16Files_L1 k k [] 0 u24).bind fun out1 => match out1 with
  | .ret r => some r
  | .done (u33, vy) =>
    some (vy, u33)
theorem cspec_l16Files {k : Nat} {u24 : GL01Cur} {r : GL01Cur × (List GFile)} (h : pspec_l16Files k u24 = some r) : FnO Tryz.prog 12 [.p (GL01Cur.q u24) []] (.v (.sl (List.map GFile.c r.2)) []) [(0, .p (GL01Cur.q r.1) [])] := by
  refine FnO.o2 Tryz.func12 (rfl : Tryz.f12.body = some _) ?_
  intro w0 X0 Fin pv0 pb gt
  unfold pspec_l16Files at h
  apply Wc.seq
  refine Wc.r0 ⟨[tP 0 1000000], [bC 1000000 (GL01Cur.q u24)], []⟩ ?_
  apply Wc.seq
  refine Wc.r2 [{ c := some (List.map GFile.c []) }, { tk := [6] }] ⟨[tP 0 1000000, (3, (.v (.sl (List.map GFile.c [])), [(0, .app 52)]))], [bC 1000000 (GL01Cur.q u24)], []⟩ (.cons (cl_nil GFile.c) .nil) ?_
  apply Wc.seq
  refine Wc.r2 [{ c := some (List.map cS [(bs [111, 110, 101]), (bs [116, 119, 111]), (bs [122, 111, 111])]) }, { tk := [7] }] ⟨[tP 0 1000000, (3, (.v (.sl (List.map GFile.c [])), [(0, .app 52)])), (4, (.v (.sl (List.map cS [(bs [111, 110, 101]), (bs [116, 119, 111]), (bs [122, 111, 111])])), [(0, .app 9)]))], [bC 1000000 (GL01Cur.q u24)], []⟩ (.cons (cl_cons (c := cS) (x := (bs [111, 110, 101])) rfl (cl_cons (c := cS) (x := (bs [116, 119, 111])) rfl (cl_cons (c := cS) (x := (bs [122, 111, 111])) rfl (cl_nil cS)))) .nil) ?_
  apply Wc.seq
  apply Wc.seq
  refine Wc.r0 ⟨[tP 0 1000000, (3, (.v (.sl (List.map GFile.c [])), [(0, .app 52)])), (4, (.v (.sl (List.map cS [(bs [111, 110, 101]), (bs [116, 119, 111]), (bs [122, 111, 111])])), [(0, .app 9)])), tI 5 0], [bC 1000000 (GL01Cur.q u24)], []⟩ ?_
  obtain ⟨out1, h6, h⟩ := obind h
  refine Wc.lastJ (fun st => ∃ (u33 : List GFile) (vy : GL01Cur), out1 = .done (u33, vy) ∧ st = ⟨[tV 3 (.sl (List.map GFile.c u33))], [bC 1000000 (GL01Cur.q vy)], []⟩) ?_ ?_
  · refine Wc.block ?_
    refine Wc.fx [.un (.t 3 0)] ⟨[tP 0 1000000, tV 3 (.sl (List.map GFile.c [])), (4, (.v (.sl (List.map cS [(bs [111, 110, 101]), (bs [116, 119, 111]), (bs [122, 111, 111])])), [(0, .app 9)])), tI 5 0], [bC 1000000 (GL01Cur.q u24)], []⟩ ?_
    refine Wc.loop (fun m st => ∃ (u11 : List GFile) (z2 : Int) (u0k : GL01Cur), st = ⟨[tP 0 1000000, tV 3 (.sl (List.map GFile.c u11)), (4, (.v (.sl (List.map cS [(bs [111, 110, 101]), (bs [116, 119, 111]), (bs [122, 111, 111])])), [(0, .app 9)])), tI 5 z2], [bC 1000000 (GL01Cur.q u0k)], []⟩ ∧ pspec_l16Files_L1 k m u11 z2 u0k = some out1) ?_ k ⟨_, _, _, rfl, h6⟩
    rintro m st ⟨u11, z2, u0k, rfl, h6⟩
    cases m with
    | zero => exact (onone h6).elim
    | succ m =>
      apply Wc.seq
      apply Wc.seq
      refine Wc.r2 [{}, {}, { v := some (aI ([(bs [111, 110, 101]), (bs [116, 119, 111]), (bs [122, 111, 111])].length : Int)) }] ⟨[tP 0 1000000, tV 3 (.sl (List.map GFile.c u11)), (4, (.v (.sl (List.map cS [(bs [111, 110, 101]), (bs [116, 119, 111]), (bs [122, 111, 111])])), [(0, .app 9)])), tI 5 z2, tB 11 (decide (z2 < ([(bs [111, 110, 101]), (bs [116, 119, 111]), (bs [122, 111, 111])].length : Int)))], [bC 1000000 (GL01Cur.q u0k)], []⟩ (.cons (len_obl cS [(bs [111, 110, 101]), (bs [116, 119, 111]), (bs [122, 111, 111])]) .nil) ?_
      rcases oif h6 with ⟨h7, h6⟩ | ⟨h7, h6⟩
      · refine Wc.cT h7 ?_
        refine Wc.fx [] ⟨[tP 0 1000000, tV 3 (.sl (List.map GFile.c u11)), (4, (.v (.sl (List.map cS [(bs [111, 110, 101]), (bs [116, 119, 111]), (bs [122, 111, 111])])), [(0, .app 9)])), tI 5 z2], [bC 1000000 (GL01Cur.q u0k)], []⟩ ?_
        refine Wc.skip ?_
        apply Wc.seq
        refine Wc.block ?_
        apply Wc.seq
        obtain ⟨u1o, h8, h6⟩ := obind h6
        refine Wc.r2 [{}, { r := some (.v (.bool u1o.2) []), outs := [(0, .p (GL01Cur.q u1o.1) [])] }] ⟨[tP 0 1000000, tV 3 (.sl (List.map GFile.c u11)), (4, (.v (.sl (List.map cS [(bs [111, 110, 101]), (bs [116, 119, 111]), (bs [122, 111, 111])])), [(0, .app 9)])), tI 5 z2, tB 16 (!u1o.2)], [bC 1000000 (GL01Cur.q u1o.1)], []⟩ (.cons (cspec_l01Once h8) .nil) ?_
        rcases oif h6 with ⟨h9, h6⟩ | ⟨h9, h6⟩
        · refine Wc.cT h9 ?_
          obtain ⟨ud, h10, h6⟩ := obind h6
          obtain ⟨u2o, h11, h6⟩ := obind h6
          obtain ⟨u32, h12, h6⟩ := obind h6
          refine Wc.draw hmix [{}, {}, {}, { v := some (.vptr [.str ud]) }, {}, {}, { r := some (.v (.str u2o.2) []), outs := [(0, .p (GL01Cur.q u2o.1) [])] }, { r := some (.v (.tup [.sl (List.map GFile.c u32.1), .bool u32.2]) []) }] [] [0, 3, 4, 5] [1000000] [] ⟨[tP 0 1000000, tV 3 (.sl (List.map GFile.c u32.1)), (4, (.v (.sl (List.map cS [(bs [111, 110, 101]), (bs [116, 119, 111]), (bs [122, 111, 111])])), [(0, .app 9)])), tI 5 z2], [bC 1000000 (GL01Cur.q u2o.1)], []⟩ _ (by kernel_rfl) (fun X => by kernel_rfl) (.cons (at_obl (c := cS) rfl cS_len h10) (.cons (len_ok 1 [.str ud]) (.cons (cspec_l16Text h11) (.cons (FnO.un (cspec_Stored h12)) .nil)))) ?_
          refine Wc.r0 ⟨[tP 0 1000000, tV 3 (.sl (List.map GFile.c u32.1)), (4, (.v (.sl (List.map cS [(bs [111, 110, 101]), (bs [116, 119, 111]), (bs [122, 111, 111])])), [(0, .app 9)])), tI 5 (wr.i64 (z2 + 1))], [bC 1000000 (GL01Cur.q u2o.1)], []⟩ ?_
          exact ⟨_, Nat.lt_succ_self _, _, _, _, rfl, h6⟩
        · refine Wc.cF h9 ?_
          refine Wc.fx [] ⟨[tP 0 1000000, tV 3 (.sl (List.map GFile.c u11)), (4, (.v (.sl (List.map cS [(bs [111, 110, 101]), (bs [116, 119, 111]), (bs [122, 111, 111])])), [(0, .app 9)])), tI 5 z2], [bC 1000000 (GL01Cur.q u1o.1)], []⟩ ?_
          refine Wc.skip ?_
          refine Wc.r0 ⟨[tP 0 1000000, tV 3 (.sl (List.map GFile.c u11)), (4, (.v (.sl (List.map cS [(bs [111, 110, 101]), (bs [116, 119, 111]), (bs [122, 111, 111])])), [(0, .app 9)])), tI 5 (wr.i64 (z2 + 1))], [bC 1000000 (GL01Cur.q u1o.1)], []⟩ ?_
          exact ⟨_, Nat.lt_succ_self _, _, _, _, rfl, h6⟩
      · refine Wc.cF h7 ?_
        refine Wc.fx [] ⟨[tV 3 (.sl (List.map GFile.c u11))], [bC 1000000 (GL01Cur.q u0k)], []⟩ ?_
        refine Wc.exit ?_
        obtain rfl := Option.some.inj h6
        exact ⟨_, _, rfl, rfl⟩
  · rintro st ⟨u33, vy, rfl, rfl⟩
    apply Wc.seq
    refine Wc.r0 ⟨[tV 2 (.sl (List.map GFile.c u33))], [bC 1000000 (GL01Cur.q vy)], []⟩ ?_
    obtain rfl := Option.some.inj h; exact Wc.ret dn

def pimpl_renamed_on1_pimpl_copyTerm_1_L1 (k : Nat) (rimpl_renamed_on1_pimpl_copyTerm_1 : GTerm → Option GTerm) (up : GTerm) : Nat → Int → GTerm → Option (Out GTerm GTerm)
  | 0, _, _ => none
  | m + 1, u07, ux =>
    if (decide (u07 < (up.gKids.length : Int))) = true then
      (at' up.gKids u07).bind fun u8 =>
      (rimpl_renamed_on1_pimpl_copyTerm_1 u8).bind fun vz =>
      if ux.gKids.length + [vz].length ≤ 1073741824 then
        pimpl_renamed_on1_pimpl_copyTerm_1_L1 k rimpl_renamed_on1_pimpl_copyTerm_1 up m (wr.i64 (u07 + 1)) (GTerm.mk ux.gKind ux.gName ux.gNum (ux.gKids ++ [vz]))
      else none
    else
      some (.done ux)
mutual
def pimpl_renamed_on1_pimpl_copyTerm_1 : Nat → GTerm → Option GTerm
  | 0, _ => none
  | k + 1, up =>
    if (up.gKind == 1) = true then
      none
    else
      (pimpl_renamed_on1_pimpl_copyTerm_1_L1 k (pimpl_renamed_on1_pimpl_copyTerm_1 k) up k 0 (GTerm.mk up.gKind up.gName up.gNum [])).bind fun out1 => match out1 with
      | .ret r => some r
      | .done u1g =>
        some u1g
end
theorem all_pimpl_renamed_on1_pimpl_copyTerm_1 : ∀ k : Nat, (∀ {up : GTerm} {r : GTerm}, pimpl_renamed_on1_pimpl_copyTerm_1 k up = some r → FnO Tryz.prog 102 [.v (.agg (GTerm.q up)) [], .v (.func 103 []) []] (.v (.agg (GTerm.q r)) [(3, .app 41)]) []) := by
  intro k
  induction k with
  | zero =>
    · intro up r h
      exact (onone (by rw [pimpl_renamed_on1_pimpl_copyTerm_1] at h; exact h)).elim
  | succ k ih =>
    have ih_pimpl_renamed_on1_pimpl_copyTerm_1 := @ih
    · intro up r h
      rw [pimpl_renamed_on1_pimpl_copyTerm_1] at h
      refine FnO.o2 Tryz.func102 (rfl : Tryz.f102.body = some _) ?_
      intro w0 X0 Fin pv0 pb gt
      apply Wc.seq
      refine Wc.r0 ⟨[tV 1 (.func 103 []), tP 2 2, tP 4 4], [bC 2 (GTerm.q up), (4, .cells GTerm.z [(3, .app 41)])], []⟩ ?_
      apply Wc.seq
      refine Wc.r0 ⟨[tV 1 (.func 103 []), tP 2 2, tP 4 4, tP 5 5], [bC 2 (GTerm.q up), (4, .cells GTerm.z [(3, .app 41)]), bC 5 (GTerm.q up)], []⟩ ?_
      apply Wc.seq
      refine Wc.r0 ⟨[tV 1 (.func 103 []), tP 2 2, tP 4 4, tP 5 5], [bC 2 (GTerm.q up), (4, .cells GTerm.z [(3, .app 41)]), (5, .cells [aI up.gKind, .str up.gName, aI up.gNum, .sl (List.map GTerm.c [])] [(3, .app 41)])], []⟩ ?_
      apply Wc.seq
      apply Wc.seq
      refine Wc.r0 ⟨[tV 1 (.func 103 []), tP 2 2, tP 4 4, tP 5 5, tB 12 (up.gKind == 1)], [bC 2 (GTerm.q up), (4, .cells GTerm.z [(3, .app 41)]), (5, .cells [aI up.gKind, .str up.gName, aI up.gNum, .sl (List.map GTerm.c [])] [(3, .app 41)])], []⟩ ?_
      rcases oif h with ⟨h7, h⟩ | ⟨h7, h⟩
      · refine Wc.cT h7 ?_
        exact (onone h).elim
      · refine Wc.cF h7 ?_
        refine Wc.fx [] ⟨[tV 1 (.func 103 []), tP 2 2, tP 4 4, tP 5 5], [bC 2 (GTerm.q up), (4, .cells GTerm.z [(3, .app 41)]), (5, .cells [aI up.gKind, .str up.gName, aI up.gNum, .sl (List.map GTerm.c [])] [(3, .app 41)])], []⟩ ?_
        refine Wc.skip ?_
        apply Wc.seq
        apply Wc.seq
        refine Wc.r2 [{}, {}, { v := some (aI (up.gKids.length : Int)) }] ⟨[tV 1 (.func 103 []), tP 4 4, tP 5 5, tV 19 (.sl (List.map GTerm.c up.gKids)), tI 20 (up.gKids.length : Int), tI 21 0], [(4, .cells GTerm.z [(3, .app 41)]), (5, .cells [aI up.gKind, .str up.gName, aI up.gNum, .sl (List.map GTerm.c [])] [(3, .app 41)])], []⟩ (.cons (len_obl GTerm.c up.gKids) .nil) ?_
        obtain ⟨out1, h8, h⟩ := obind h
        refine Wc.lastJ (fun st => ∃ (u1g : GTerm), out1 = .done u1g ∧ st = ⟨[tP 4 4, tP 5 5], [(4, .cells GTerm.z [(3, .app 41)]), (5, .cells (GTerm.q u1g) [(3, .app 41)])], []⟩) ?_ ?_
        · refine Wc.block ?_
          refine Wc.loop (fun m st => ∃ (u07 : Int) (ux : GTerm), st = ⟨[tV 1 (.func 103 []), tP 4 4, tP 5 5, tV 19 (.sl (List.map GTerm.c up.gKids)), tI 20 (up.gKids.length : Int), tI 21 u07], [(4, .cells GTerm.z [(3, .app 41)]), (5, .cells (GTerm.q ux) [(3, .app 41)])], []⟩ ∧ pimpl_renamed_on1_pimpl_copyTerm_1_L1 k (pimpl_renamed_on1_pimpl_copyTerm_1 k) up m u07 ux = some out1) ?_ k ⟨_, _, rfl, h8⟩
          rintro m st ⟨u07, ux, rfl, h8⟩
          cases m with
          | zero => exact (onone h8).elim
          | succ m =>
            apply Wc.seq
            refine Wc.r0 ⟨[tV 1 (.func 103 []), tP 4 4, tP 5 5, tV 19 (.sl (List.map GTerm.c up.gKids)), tI 20 (up.gKids.length : Int), tI 21 u07, tB 22 (decide (u07 < (up.gKids.length : Int)))], [(4, .cells GTerm.z [(3, .app 41)]), (5, .cells (GTerm.q ux) [(3, .app 41)])], []⟩ ?_
            apply Wc.seq
            rcases oif h8 with ⟨h9, h8⟩ | ⟨h9, h8⟩
            · refine Wc.cT h9 ?_
              refine Wc.fx [] ⟨[tV 1 (.func 103 []), tP 4 4, tP 5 5, tV 19 (.sl (List.map GTerm.c up.gKids)), tI 20 (up.gKids.length : Int), tI 21 u07], [(4, .cells GTerm.z [(3, .app 41)]), (5, .cells (GTerm.q ux) [(3, .app 41)])], []⟩ ?_
              refine Wc.skip ?_
              apply Wc.seq
              refine Wc.block ?_
              apply Wc.seq
              obtain ⟨u8, h10, h8⟩ := obind h8
              refine Wc.r2 [{ v := some (.vptr (GTerm.q u8)) }] ⟨[tV 1 (.func 103 []), tP 4 4, tP 5 5, tP 7 7, tV 19 (.sl (List.map GTerm.c up.gKids)), tI 20 (up.gKids.length : Int), tI 21 u07], [(4, .cells GTerm.z [(3, .app 41)]), (5, .cells (GTerm.q ux) [(3, .app 41)]), bC 7 (GTerm.q u8)], []⟩ (.cons (at_obl (c := GTerm.c) (GTerm.c_eq u8) GTerm.c_len h10) (.cons (len_ok 4 (GTerm.q u8)) .nil)) ?_
              obtain ⟨vz, h11, h8⟩ := obind h8
              obtain ⟨h12, h8⟩ := oguard h8
              refine Wc.draw hmix [{}, { md := 1 }, {}, {}, { r := some (.v (.agg (GTerm.q vz)) [(3, .app 41)]) }, { c := some (List.map GTerm.c [vz]) }, { c := some (List.map GTerm.c (ux.gKids ++ [vz])), tk := [26] }, {}, { tk := [31] }] [] [1, 4, 5, 19, 20, 21] [4, 5] [] ⟨[tV 1 (.func 103 []), tP 4 4, tP 5 5, tV 19 (.sl (List.map GTerm.c up.gKids)), tI 20 (up.gKids.length : Int), tI 21 u07], [(4, .cells GTerm.z [(3, .app 41)]), (5, .cells [aI ux.gKind, .str ux.gName, aI ux.gNum, .sl (List.map GTerm.c (ux.gKids ++ [vz]))] [(3, .app 41)])], []⟩ _ (by kernel_rfl) (fun X => by kernel_rfl) (.cons (ih_pimpl_renamed_on1_pimpl_copyTerm_1 h11) (.cons (cl_cons (c := GTerm.c) (x := vz) (GTerm.c_eq vz) (cl_nil GTerm.c)) (.cons (app_re2 GTerm.c ux.gKids [vz]) (.cons (app_leaf (c := GTerm.c) (ys := [vz]) GTerm.c_leaf) (.cons (app_obl2 (c := GTerm.c) (xs := ux.gKids) (ys := [vz]) GTerm.c_len h12) .nil))))) ?_
              refine Wc.r0 ⟨[tV 1 (.func 103 []), tP 4 4, tP 5 5, tV 19 (.sl (List.map GTerm.c up.gKids)), tI 20 (up.gKids.length : Int), tI 21 (wr.i64 (u07 + 1))], [(4, .cells GTerm.z [(3, .app 41)]), (5, .cells [aI ux.gKind, .str ux.gName, aI ux.gNum, .sl (List.map GTerm.c (ux.gKids ++ [vz]))] [(3, .app 41)])], []⟩ ?_
              exact ⟨_, Nat.lt_succ_self _, _, _, rfl, h8⟩
            · refine Wc.cF h9 ?_
              refine Wc.fx [] ⟨[tP 4 4, tP 5 5], [(4, .cells GTerm.z [(3, .app 41)]), (5, .cells (GTerm.q ux) [(3, .app 41)])], []⟩ ?_
              refine Wc.exit ?_
              obtain rfl := Option.some.inj h8
              exact ⟨_, rfl, rfl⟩
        · rintro st ⟨u1g, rfl, rfl⟩
          apply Wc.seq
          refine Wc.r1 [{ md := 1 }, { tk := [34] }] ⟨[tP 4 4], [(4, .cells (GTerm.q u1g) [(3, .app 41)])], []⟩ ?_
          obtain rfl := Option.some.inj h; exact Wc.ret dn
theorem cimpl_renamed_on1_pimpl_copyTerm_1 {k : Nat} {up : GTerm} {r : GTerm} (h : pimpl_renamed_on1_pimpl_copyTerm_1 k up = some r) : FnO Tryz.prog 102 [.v (.agg (GTerm.q up)) [], .v (.func 103 []) []] (.v (.agg (GTerm.q r)) [(3, .app 41)]) [] := (all_pimpl_renamed_on1_pimpl_copyTerm_1 k) h

def pimpl_copyTerm (k : Nat) (u1h : GTerm) : Option GTerm :=
  (pimpl_renamed_on1_pimpl_copyTerm_1 k u1h).bind fun v8 =>
  some v8
theorem cimpl_copyTerm {k : Nat} {u1h : GTerm} {r : GTerm} (h : pimpl_copyTerm k u1h = some r) : FnO Tryz.prog 69 [.v (.agg (GTerm.q u1h)) []] (.v (.agg (GTerm.q r)) [(3, .app 41)]) [] := by
  refine FnO.o2 Tryz.func69 (rfl : Tryz.f69.body = some _) ?_
  intro w0 X0 Fin pv0 pb gt
  unfold pimpl_copyTerm at h
  apply Wc.seq
  refine Wc.r0 ⟨[tP 1 1, tP 2 2], [bC 1 (GTerm.q u1h), (2, .cells GTerm.z [(3, .app 41)])], []⟩ ?_
  apply Wc.seq
  obtain ⟨v8, h2, h⟩ := obind h
  refine Wc.r2 [{}, { r := some (.v (.agg (GTerm.q v8)) [(3, .app 41)]) }, { tk := [4] }] ⟨[tP 2 2], [(2, .cells (GTerm.q v8) [(3, .app 41)])], []⟩ (.cons (cimpl_renamed_on1_pimpl_copyTerm_1 h2) .nil) ?_
  obtain rfl := Option.some.inj h; exact Wc.ret dn

def pimpl_copyClause (k : Nat) (z3 : GClause) : Option GClause :=
  (pimpl_copyTerm k z3.gHead).bind fun z4 =>
  (pimpl_copyTerm k z3.gBody).bind fun ux =>
  some (GClause.mk z4 ux z3.gFile)
theorem cimpl_copyClause {k : Nat} {z3 : GClause} {r : GClause} (h : pimpl_copyClause k z3 = some r) : FnO Tryz.prog 48 [.v (.agg (GClause.q z3)) []] (.v (.agg (GClause.q r)) [(3, .app 41), (7, .app 41)]) [] := by
  refine FnO.o2 Tryz.func48 (rfl : Tryz.f48.body = some _) ?_
  intro w0 X0 Fin pv0 pb gt
  unfold pimpl_copyClause at h
  apply Wc.seq
  refine Wc.r0 ⟨[tP 1 1, tP 2 2], [bC 1 (GClause.q z3), (2, .cells GClause.z [(3, .app 41), (7, .app 41)])], []⟩ ?_
  apply Wc.seq
  obtain ⟨z4, h5, h⟩ := obind h
  obtain ⟨ux, h6, h⟩ := obind h
  refine Wc.draw hmix [{}, {}, { r := some (.v (.agg (GTerm.q z4)) [(3, .app 41)]) }, {}, {}, { r := some (.v (.agg (GTerm.q ux)) [(3, .app 41)]) }, {}, {}, { tk := [5, 8] }, { tk := [11] }] [] [2] [2] [] ⟨[tP 2 2], [(2, .cells [aI z4.gKind, .str z4.gName, aI z4.gNum, .sl (List.map GTerm.c z4.gKids), aI ux.gKind, .str ux.gName, aI ux.gNum, .sl (List.map GTerm.c ux.gKids), .str z3.gFile] [(3, .app 41), (7, .app 41)])], []⟩ _ (by kernel_rfl) (fun X => by kernel_rfl) (.cons (cimpl_copyTerm h5) (.cons (cimpl_copyTerm h6) .nil)) ?_
  obtain rfl := Option.some.inj h; exact Wc.ret dn

def pimpl_copyClauses_L1 (k : Nat) (zb : List GClause) : Nat → (List GClause) → Int → Option (Out (List GClause) (List GClause))
  | 0, _, _ => none
  | m + 1, u0e, z2 =>
    if (decide (z2 < (zb.length : Int))) = true then
      (at' zb z2).bind fun zr =>
      (pimpl_copyClause k zr).bind fun z5 =>
      if u0e.length + [z5].length ≤ 1073741824 then
        pimpl_copyClauses_L1 k zb m (u0e ++ [z5]) (wr.i64 (z2 + 1))
      else none
    else
      some (.done u0e)
def pimpl_copyClauses (k : Nat) (zb : List GClause) : Option (List GClause) :=
  (pimpl_copyClauses_L1 k zb k [] 0).bind fun out1 => match out1 with
  | .ret r => some r
  | .done zs =>
    some zs
theorem cimpl_copyClauses {k : Nat} {zb : List GClause} {r : (List GClause)} (h : pimpl_copyClauses k zb = some r) : FnO Tryz.prog 30 [.v (.sl (List.map GClause.c zb)) []] (.v (.sl (List.map GClause.c r)) [(0, .app 43)]) [] := by
  refine FnO.o2 Tryz.func30 (rfl : Tryz.f30.body = some _) ?_
  intro w0 X0 Fin pv0 pb gt
  unfold pimpl_copyClauses at h
  apply Wc.seq
  refine Wc.r0 ⟨[tV 0 (.sl (List.map GClause.c zb))], [], []⟩ ?_
  apply Wc.seq
  refine Wc.r0 ⟨[tV 0 (.sl (List.map GClause.c zb)), (3, (.v (.sl (List.map GClause.c [])), [(0, .app 43)]))], [], []⟩ ?_
  apply Wc.seq
  apply Wc.seq
  refine Wc.r2 [{}, { v := some (aI (zb.length : Int)) }] ⟨[(3, (.v (.sl (List.map GClause.c [])), [(0, .app 43)])), tV 6 (.sl (List.map GClause.c zb)), tI 7 (zb.length : Int), tI 8 0], [], []⟩ (.cons (len_obl GClause.c zb) .nil) ?_
  obtain ⟨out1, h6, h⟩ := obind h
  refine Wc.lastJ (fun st => ∃ (zs : List GClause), out1 = .done zs ∧ st = ⟨[(3, (.v (.sl (List.map GClause.c zs)), [(0, .app 43)]))], [], []⟩) ?_ ?_
  · refine Wc.block ?_
    refine Wc.loop (fun m st => ∃ (u0e : List GClause) (z2 : Int), st = ⟨[(3, (.v (.sl (List.map GClause.c u0e)), [(0, .app 43)])), tV 6 (.sl (List.map GClause.c zb)), tI 7 (zb.length : Int), tI 8 z2], [], []⟩ ∧ pimpl_copyClauses_L1 k zb m u0e z2 = some out1) ?_ k ⟨_, _, rfl, h6⟩
    rintro m st ⟨u0e, z2, rfl, h6⟩
    cases m with
    | zero => exact (onone h6).elim
    | succ m =>
      apply Wc.seq
      refine Wc.r0 ⟨[(3, (.v (.sl (List.map GClause.c u0e)), [(0, .app 43)])), tV 6 (.sl (List.map GClause.c zb)), tI 7 (zb.length : Int), tI 8 z2, tB 9 (decide (z2 < (zb.length : Int)))], [], []⟩ ?_
      apply Wc.seq
      rcases oif h6 with ⟨h7, h6⟩ | ⟨h7, h6⟩
      · refine Wc.cT h7 ?_
        refine Wc.fx [] ⟨[(3, (.v (.sl (List.map GClause.c u0e)), [(0, .app 43)])), tV 6 (.sl (List.map GClause.c zb)), tI 7 (zb.length : Int), tI 8 z2], [], []⟩ ?_
        refine Wc.skip ?_
        apply Wc.seq
        refine Wc.block ?_
        apply Wc.seq
        obtain ⟨zr, h8, h6⟩ := obind h6
        refine Wc.r2 [{ v := some (.vptr (GClause.q zr)) }] ⟨[(3, (.v (.sl (List.map GClause.c u0e)), [(0, .app 43)])), tP 5 5, tV 6 (.sl (List.map GClause.c zb)), tI 7 (zb.length : Int), tI 8 z2], [bC 5 (GClause.q zr)], []⟩ (.cons (at_obl (c := GClause.c) (GClause.c_eq zr) GClause.c_len h8) (.cons (len_ok 9 (GClause.q zr)) .nil)) ?_
        obtain ⟨z5, h9, h6⟩ := obind h6
        obtain ⟨h10, h6⟩ := oguard h6
        refine Wc.r2 [{ tk := [3] }, {}, { r := some (.v (.agg (GClause.q z5)) [(3, .app 41), (7, .app 41)]) }, { c := some (List.map GClause.c [z5]) }, { c := some (List.map GClause.c (u0e ++ [z5])), tk := [12] }, { tk := [16] }] ⟨[(3, (.v (.sl (List.map GClause.c (u0e ++ [z5]))), [(0, .app 43)])), tV 6 (.sl (List.map GClause.c zb)), tI 7 (zb.length : Int), tI 8 z2], [], []⟩ (.cons (cimpl_copyClause h9) (.cons (cl_cons (c := GClause.c) (x := z5) (GClause.c_eq z5) (cl_nil GClause.c)) (.cons (app_re2 GClause.c u0e [z5]) (.cons (app_leaf (c := GClause.c) (ys := [z5]) GClause.c_leaf) (.cons (app_obl2 (c := GClause.c) (xs := u0e) (ys := [z5]) GClause.c_len h10) .nil))))) ?_
        refine Wc.r0 ⟨[(3, (.v (.sl (List.map GClause.c (u0e ++ [z5]))), [(0, .app 43)])), tV 6 (.sl (List.map GClause.c zb)), tI 7 (zb.length : Int), tI 8 (wr.i64 (z2 + 1))], [], []⟩ ?_
        exact ⟨_, Nat.lt_succ_self _, _, _, rfl, h6⟩
      · refine Wc.cF h7 ?_
        refine Wc.fx [] ⟨[(3, (.v (.sl (List.map GClause.c u0e)), [(0, .app 43)]))], [], []⟩ ?_
        refine Wc.exit ?_
        obtain rfl := Option.some.inj h6
        exact ⟨_, rfl, rfl⟩
  · rintro st ⟨zs, rfl, rfl⟩
    apply Wc.seq
    refine Wc.r1 [{ tk := [3] }, { tk := [18] }] ⟨[(2, (.v (.sl (List.map GClause.c zs)), [(0, .app 43)]))], [], []⟩ ?_
    obtain rfl := Option.some.inj h; exact Wc.ret dn

def pimpl_copyDb (k : Nat) (um : GDb) : Option GDb :=
  (pimpl_copyClauses k um.gClauses).bind fun u1i =>
  if ([] : List ByteArray).length + um.gOpen.length ≤ 1073741824 then
    some (GDb.mk u1i um.gOpen)
  else none
theorem cimpl_copyDb {k : Nat} {um : GDb} {r : GDb} (h : pimpl_copyDb k um = some r) : FnO Tryz.prog 19 [.v (.agg (GDb.q um)) []] (.v (.agg (GDb.q r)) [(0, .app 43), (1, .app 9)]) [] := by
  refine FnO.o2 Tryz.func19 (rfl : Tryz.f19.body = some _) ?_
  intro w0 X0 Fin pv0 pb gt
  unfold pimpl_copyDb at h
  apply Wc.seq
  refine Wc.r0 ⟨[tP 1 1, tP 2 2], [bC 1 (GDb.q um), (2, .cells GDb.z [(0, .app 43), (1, .app 9)])], []⟩ ?_
  apply Wc.seq
  obtain ⟨u1i, h3, h⟩ := obind h
  obtain ⟨h4, h⟩ := oguard h
  refine Wc.draw hmix [{}, {}, { r := some (.v (.sl (List.map GClause.c u1i)) [(0, .app 43)]) }, {}, {}, { c := some (List.map cS um.gOpen) }, { tk := [5, 8] }, { tk := [9] }] [] [2] [2] [] ⟨[tP 2 2], [(2, .cells [.sl (List.map GClause.c u1i), .sl (List.map cS um.gOpen)] [(0, .app 43), (1, .app 9)])], []⟩ _ (by kernel_rfl) (fun X => by kernel_rfl) (.cons (cimpl_copyClauses h3) (.cons (app_re0 cS um.gOpen) (.cons (app_leaf (c := cS) (ys := um.gOpen) cS_leaf) (.cons (app_obl2 (c := cS) (xs := []) (ys := um.gOpen) cS_len h4) .nil)))) ?_
  obtain rfl := Option.some.inj h; exact Wc.ret dn

def pimpl_within (k : Nat) (u5 : Int) (un : Int) (vj : Int) : Option Bool :=
  if (decide (u5 ≥ un)) = true then
    some (decide (u5 ≤ vj))
  else
    some false
theorem cimpl_within {k : Nat} {u5 : Int} {un : Int} {vj : Int} {r : Bool} (h : pimpl_within k u5 un vj = some r) : FnO Tryz.prog 52 [.v (aI u5) [], .v (aI un) [], .v (aI vj) []] (.v (.bool r) []) [] := by
  refine FnO.o2 Tryz.func52 (rfl : Tryz.f52.body = some _) ?_
  intro w0 X0 Fin pv0 pb gt
  unfold pimpl_within at h
  apply Wc.seq
  refine Wc.r0 ⟨[tI 0 u5, tI 1 un, tI 2 vj], [], []⟩ ?_
  apply Wc.seq
  rcases oif h with ⟨h6, h⟩ | ⟨h6, h⟩
  · refine Wc.r2 [{}, {}, {}, { re := some (.bool true) }] ⟨[tB 6 (decide (u5 ≤ vj))], [], []⟩ (.cons (congrArg AV.bool h6) .nil) ?_
    obtain rfl := Option.some.inj h; exact Wc.ret dn
  · refine Wc.r2 [{}, {}, {}, { re := some (.bool false) }] ⟨[tB 6 false], [], []⟩ (.cons (congrArg AV.bool h6) .nil) ?_
    obtain rfl := Option.some.inj h; exact Wc.ret dn

def pimpl_nameOk_L1 (k : Nat) (vr : ByteArray) : Nat → Int → Option (Out Bool Unit)
  | 0, _ => none
  | m + 1, us =>
    if (decide (us < (vr.size : Int))) = true then
      if 0 ≤ us ∧ (us).toNat < vr.size then
        (pimpl_within k (wr.i64 (bt vr us)) 33 126).bind fun u1p =>
        if (!u1p) = true then
          none
        else
          if 0 ≤ us ∧ (us).toNat < vr.size then
            if ((bt vr us) == 39) = true then
              none
            else
              if 0 ≤ us ∧ (us).toNat < vr.size then
                if ((bt vr us) == 34) = true then
                  none
                else
                  pimpl_nameOk_L1 k vr m (wr.i64 (us + 1))
              else none
          else none
      else none
    else
      some (.done ())
def pimpl_nameOk (k : Nat) (vr : ByteArray) : Option Bool :=
  (pimpl_nameOk_L1 k vr k 0).bind fun out1 => match out1 with
  | .ret r => some r
  | .done () =>
    (pimpl_within k (vr.size : Int) 1 20).bind fun u4a =>
    some u4a
theorem cimpl_nameOk {k : Nat} {vr : ByteArray} {r : Bool} (h : pimpl_nameOk k vr = some r) : FnO Tryz.prog 112 [.v (.str vr) []] (.v (.bool r) []) [] := by
  refine FnO.o2 Tryz.func112 (rfl : Tryz.f112.body = some _) ?_
  intro w0 X0 Fin pv0 pb gt
  unfold pimpl_nameOk at h
  apply Wc.seq
  refine Wc.r0 ⟨[tS 0 vr], [], []⟩ ?_
  apply Wc.seq
  apply Wc.seq
  refine Wc.r0 ⟨[tS 0 vr, tI 3 0], [], []⟩ ?_
  obtain ⟨out1, h4, h⟩ := obind h
  refine Wc.lastJ (fun st => out1 = .done () ∧ st = ⟨[tS 0 vr], [], []⟩) ?_ ?_
  · refine Wc.block ?_
    refine Wc.loop (fun m st => ∃ (us : Int), st = ⟨[tS 0 vr, tI 3 us], [], []⟩ ∧ pimpl_nameOk_L1 k vr m us = some out1) ?_ k ⟨_, rfl, h4⟩
    rintro m st ⟨us, rfl, h4⟩
    cases m with
    | zero => exact (onone h4).elim
    | succ m =>
      apply Wc.seq
      apply Wc.seq
      refine Wc.r0 ⟨[tS 0 vr, tI 3 us, tB 7 (decide (us < (vr.size : Int)))], [], []⟩ ?_
      rcases oif h4 with ⟨h5, h4⟩ | ⟨h5, h4⟩
      · refine Wc.cT h5 ?_
        refine Wc.fx [] ⟨[tS 0 vr, tI 3 us], [], []⟩ ?_
        refine Wc.skip ?_
        apply Wc.seq
        refine Wc.block ?_
        apply Wc.seq
        obtain ⟨h6, h4⟩ := oguard h4
        obtain ⟨u1p, h7, h4⟩ := obind h4
        rcases oif h4 with ⟨h8, h4⟩ | ⟨h8, h4⟩
        · refine Wc.r2 [{}, {}, {}, {}, { r := some (.v (.bool u1p) []) }, {}, { re := some (.bool true) }] ⟨[tS 0 vr, tI 3 us, tB 27 true], [], []⟩ (.cons h6 (.cons (cimpl_within h7) (.cons (congrArg AV.bool h8) .nil))) ?_
          refine Wc.cT rfl ?_
          exact (onone h4).elim
        · obtain ⟨h9, h4⟩ := oguard h4
          rcases oif h4 with ⟨h10, h4⟩ | ⟨h10, h4⟩
          · refine Wc.r2 [{}, {}, {}, {}, { r := some (.v (.bool u1p) []) }, {}, { re := some (.bool false) }, {}, {}, {}, {}, {}, { re := some (.bool true) }] ⟨[tS 0 vr, tI 3 us, tB 27 true], [], []⟩ (.cons h6 (.cons (cimpl_within h7) (.cons (congrArg AV.bool h8) (.cons h9 (.cons (congrArg AV.bool h10) .nil))))) ?_
            refine Wc.cT rfl ?_
            exact (onone h4).elim
          · obtain ⟨h11, h4⟩ := oguard h4
            refine Wc.r2 [{}, {}, {}, {}, { r := some (.v (.bool u1p) []) }, {}, { re := some (.bool false) }, {}, {}, {}, {}, {}, { re := some (.bool false) }] ⟨[tS 0 vr, tI 3 us, tB 27 ((bt vr us) == 34)], [], []⟩ (.cons h6 (.cons (cimpl_within h7) (.cons (congrArg AV.bool h8) (.cons h9 (.cons (congrArg AV.bool h10) (.cons h11 .nil)))))) ?_
            rcases oif h4 with ⟨h12, h4⟩ | ⟨h12, h4⟩
            · refine Wc.cT h12 ?_
              exact (onone h4).elim
            · refine Wc.cF h12 ?_
              refine Wc.fx [] ⟨[tS 0 vr, tI 3 us], [], []⟩ ?_
              refine Wc.skip ?_
              refine Wc.r0 ⟨[tS 0 vr, tI 3 (wr.i64 (us + 1))], [], []⟩ ?_
              exact ⟨_, Nat.lt_succ_self _, _, rfl, h4⟩
      · refine Wc.cF h5 ?_
        refine Wc.fx [] ⟨[tS 0 vr], [], []⟩ ?_
        refine Wc.exit ?_
        obtain rfl := Option.some.inj h4
        exact ⟨rfl, rfl⟩
  · rintro st ⟨rfl, rfl⟩
    apply Wc.seq
    obtain ⟨u4a, h13, h⟩ := obind h
    refine Wc.r2 [{}, {}, { r := some (.v (.bool u4a) []) }] ⟨[tB 2 u4a], [], []⟩ (.cons (cimpl_within h13) .nil) ?_
    obtain rfl := Option.some.inj h; exact Wc.ret dn

def pimpl_sized_L2 (k : Nat) (rimpl_sized : GTerm → Int → Option Int) (u9 : GTerm) (ua : Int) : Nat → Int → Int → Option (Out Int Int)
  | 0, _, _ => none
  | m + 1, us, u5 =>
    if (decide (u5 < (u9.gKids.length : Int))) = true then
      (at' u9.gKids u5).bind fun u0f =>
      (rimpl_sized u0f (wr.i64 (ua + 1))).bind fun zc =>
      if (decide ((wr.i64 (us + zc)) > 400)) = true then
        none
      else
        pimpl_sized_L2 k rimpl_sized u9 ua m (wr.i64 (us + zc)) (wr.i64 (u5 + 1))
    else
      some (.done us)
def pimpl_sized_J1 (k : Nat) (rimpl_sized : GTerm → Int → Option Int) (u9 : GTerm) (ua : Int) : Option Int :=
  (pimpl_sized_L2 k rimpl_sized u9 ua k 1 0).bind fun out2 => match out2 with
  | .ret r => some r
  | .done un =>
    some un
mutual
def pimpl_sized : Nat → GTerm → Int → Option Int
  | 0, _, _ => none
  | k + 1, u9, ua =>
    if (decide (ua > 40)) = true then
      none
    else
      if (u9.gKind == 1) = true then
        none
      else
        if (u9.gKind == 2) = true then
          (pimpl_nameOk k u9.gName).bind fun zw =>
          if (!zw) = true then
            none
          else
            if (u9.gNum != 0) = true then
              none
            else
              if (decide ((u9.gKids.length : Int) > 0)) = true then
                none
              else
                pimpl_sized_J1 k (pimpl_sized k) u9 ua
        else
          if (u9.gKind == 3) = true then
            if (!(sEq u9.gName (bs []))) = true then
              none
            else
              (pimpl_within k u9.gNum (-999999999) 999999999).bind fun u0l =>
              if (!u0l) = true then
                none
              else
                if (decide ((u9.gKids.length : Int) > 0)) = true then
                  none
                else
                  pimpl_sized_J1 k (pimpl_sized k) u9 ua
          else
            if (u9.gKind == 4) = true then
              (pimpl_nameOk k u9.gName).bind fun u0g =>
              if (!u0g) = true then
                none
              else
                if (u9.gNum != 0) = true then
                  none
                else
                  (pimpl_within k (u9.gKids.length : Int) 1 5).bind fun u4b =>
                  if (!u4b) = true then
                    none
                  else
                    pimpl_sized_J1 k (pimpl_sized k) u9 ua
            else
              none
end
set_option maxHeartbeats 4000000 in
theorem all_pimpl_sized : ∀ k : Nat, (∀ {u9 : GTerm} {ua : Int} {r : Int}, pimpl_sized k u9 ua = some r → FnO Tryz.prog 81 [.v (.agg (GTerm.q u9)) [], .v (aI ua) []] (.v (aI r) []) []) := by
  intro k
  induction k with
  | zero =>
    · intro u9 ua r h
      exact (onone (by rw [pimpl_sized] at h; exact h)).elim
  | succ k ih =>
    have ih_pimpl_sized := @ih
    · intro u9 ua r h
      rw [pimpl_sized] at h
      refine FnO.o2 Tryz.func81 (rfl : Tryz.f81.body = some _) ?_
      intro w0 X0 Fin pv0 pb gt
      apply Wc.seq
      refine Wc.r0 ⟨[tI 1 ua, tP 2 2], [bC 2 (GTerm.q u9)], []⟩ ?_
      apply Wc.seq
      apply Wc.seq
      refine Wc.r0 ⟨[tI 1 ua, tP 2 2, tB 9 (decide (ua > 40))], [bC 2 (GTerm.q u9)], []⟩ ?_
      rcases oif h with ⟨h1, h⟩ | ⟨h1, h⟩
      · refine Wc.cT h1 ?_
        exact (onone h).elim
      · refine Wc.cF h1 ?_
        refine Wc.fx [] ⟨[tI 1 ua, tP 2 2], [bC 2 (GTerm.q u9)], []⟩ ?_
        refine Wc.skip ?_
        refine Wc.seqJ (fun st => st = ⟨[tI 1 ua, tP 2 2], [bC 2 (GTerm.q u9)], []⟩ ∧ pimpl_sized_J1 k (pimpl_sized k) u9 ua = some r) ?_ ?_
        · apply Wc.seq
          refine Wc.r0 ⟨[tI 1 ua, tP 2 2, tI 11 u9.gKind], [bC 2 (GTerm.q u9)], []⟩ ?_
          refine Wc.block ?_
          apply Wc.seq
          refine Wc.r0 ⟨[tI 1 ua, tP 2 2, tI 11 u9.gKind, tB 12 (u9.gKind == 1)], [bC 2 (GTerm.q u9)], []⟩ ?_
          rcases oif h with ⟨h7, h⟩ | ⟨h7, h⟩
          · refine Wc.cT h7 ?_
            exact (onone h).elim
          · refine Wc.cF h7 ?_
            apply Wc.seq
            refine Wc.r0 ⟨[tI 1 ua, tP 2 2, tI 11 u9.gKind, tB 29 (u9.gKind == 2)], [bC 2 (GTerm.q u9)], []⟩ ?_
            rcases oif h with ⟨h8, h⟩ | ⟨h8, h⟩
            · refine Wc.cT h8 ?_
              apply Wc.seq
              obtain ⟨zw, h9, h⟩ := obind h
              rcases oif h with ⟨h10, h⟩ | ⟨h10, h⟩
              · refine Wc.r2 [{}, {}, { r := some (.v (.bool zw) []) }, {}, { re := some (.bool true) }] ⟨[tI 1 ua, tP 2 2, tB 45 true], [bC 2 (GTerm.q u9)], []⟩ (.cons (cimpl_nameOk h9) (.cons (congrArg AV.bool h10) .nil)) ?_
                refine Wc.cT rfl ?_
                exact (onone h).elim
              · rcases oif h with ⟨h11, h⟩ | ⟨h11, h⟩
                · refine Wc.r2 [{}, {}, { r := some (.v (.bool zw) []) }, {}, { re := some (.bool false) }, {}, {}, {}, {}, { re := some (.bool true) }] ⟨[tI 1 ua, tP 2 2, tB 45 true], [bC 2 (GTerm.q u9)], []⟩ (.cons (cimpl_nameOk h9) (.cons (congrArg AV.bool h10) (.cons (congrArg AV.bool h11) .nil))) ?_
                  refine Wc.cT rfl ?_
                  exact (onone h).elim
                · refine Wc.r2 [{}, {}, { r := some (.v (.bool zw) []) }, {}, { re := some (.bool false) }, {}, {}, {}, {}, { re := some (.bool false) }, {}, {}, { v := some (aI (u9.gKids.length : Int)) }] ⟨[tI 1 ua, tP 2 2, tB 45 (decide ((u9.gKids.length : Int) > 0))], [bC 2 (GTerm.q u9)], []⟩ (.cons (cimpl_nameOk h9) (.cons (congrArg AV.bool h10) (.cons (congrArg AV.bool h11) (.cons (len_obl GTerm.c u9.gKids) .nil)))) ?_
                  rcases oif h with ⟨h12, h⟩ | ⟨h12, h⟩
                  · refine Wc.cT h12 ?_
                    exact (onone h).elim
                  · refine Wc.cF h12 ?_
                    refine Wc.fx [] ⟨[tI 1 ua, tP 2 2], [bC 2 (GTerm.q u9)], []⟩ ?_
                    refine Wc.skip ?_
                    exact ⟨rfl, h⟩
            · refine Wc.cF h8 ?_
              apply Wc.seq
              refine Wc.r0 ⟨[tI 1 ua, tP 2 2, tI 11 u9.gKind, tB 46 (u9.gKind == 3)], [bC 2 (GTerm.q u9)], []⟩ ?_
              rcases oif h with ⟨h13, h⟩ | ⟨h13, h⟩
              · refine Wc.cT h13 ?_
                apply Wc.seq
                rcases oif h with ⟨h14, h⟩ | ⟨h14, h⟩
                · refine Wc.r2 [{}, {}, {}, { re := some (.bool true) }] ⟨[tI 1 ua, tP 2 2, tB 62 true], [bC 2 (GTerm.q u9)], []⟩ (.cons (congrArg AV.bool h14) .nil) ?_
                  refine Wc.cT rfl ?_
                  exact (onone h).elim
                · obtain ⟨u0l, h15, h⟩ := obind h
                  rcases oif h with ⟨h16, h⟩ | ⟨h16, h⟩
                  · refine Wc.r2 [{}, {}, {}, { re := some (.bool false) }, {}, {}, { r := some (.v (.bool u0l) []) }, {}, {}, { re := some (.bool true) }] ⟨[tI 1 ua, tP 2 2, tB 62 true], [bC 2 (GTerm.q u9)], []⟩ (.cons (congrArg AV.bool h14) (.cons (cimpl_within h15) (.cons (congrArg AV.bool h16) .nil))) ?_
                    refine Wc.cT rfl ?_
                    exact (onone h).elim
                  · refine Wc.r2 [{}, {}, {}, { re := some (.bool false) }, {}, {}, { r := some (.v (.bool u0l) []) }, {}, {}, { re := some (.bool false) }, {}, {}, { v := some (aI (u9.gKids.length : Int)) }] ⟨[tI 1 ua, tP 2 2, tB 62 (decide ((u9.gKids.length : Int) > 0))], [bC 2 (GTerm.q u9)], []⟩ (.cons (congrArg AV.bool h14) (.cons (cimpl_within h15) (.cons (congrArg AV.bool h16) (.cons (len_obl GTerm.c u9.gKids) .nil)))) ?_
                    rcases oif h with ⟨h17, h⟩ | ⟨h17, h⟩
                    · refine Wc.cT h17 ?_
                      exact (onone h).elim
                    · refine Wc.cF h17 ?_
                      refine Wc.fx [] ⟨[tI 1 ua, tP 2 2], [bC 2 (GTerm.q u9)], []⟩ ?_
                      refine Wc.skip ?_
                      exact ⟨rfl, h⟩
              · refine Wc.cF h13 ?_
                apply Wc.seq
                refine Wc.r0 ⟨[tI 1 ua, tP 2 2, tB 63 (u9.gKind == 4)], [bC 2 (GTerm.q u9)], []⟩ ?_
                rcases oif h with ⟨h18, h⟩ | ⟨h18, h⟩
                · refine Wc.cT h18 ?_
                  apply Wc.seq
                  obtain ⟨u0g, h19, h⟩ := obind h
                  rcases oif h with ⟨h20, h⟩ | ⟨h20, h⟩
                  · refine Wc.r2 [{}, {}, { r := some (.v (.bool u0g) []) }, {}, { re := some (.bool true) }] ⟨[tI 1 ua, tP 2 2, tB 80 true], [bC 2 (GTerm.q u9)], []⟩ (.cons (cimpl_nameOk h19) (.cons (congrArg AV.bool h20) .nil)) ?_
                    refine Wc.cT rfl ?_
                    exact (onone h).elim
                  · rcases oif h with ⟨h21, h⟩ | ⟨h21, h⟩
                    · refine Wc.r2 [{}, {}, { r := some (.v (.bool u0g) []) }, {}, { re := some (.bool false) }, {}, {}, {}, {}, { re := some (.bool true) }] ⟨[tI 1 ua, tP 2 2, tB 80 true], [bC 2 (GTerm.q u9)], []⟩ (.cons (cimpl_nameOk h19) (.cons (congrArg AV.bool h20) (.cons (congrArg AV.bool h21) .nil))) ?_
                      refine Wc.cT rfl ?_
                      exact (onone h).elim
                    · obtain ⟨u4b, h22, h⟩ := obind h
                      refine Wc.r2 [{}, {}, { r := some (.v (.bool u0g) []) }, {}, { re := some (.bool false) }, {}, {}, {}, {}, { re := some (.bool false) }, {}, {}, { v := some (aI (u9.gKids.length : Int)) }, { r := some (.v (.bool u4b) []) }] ⟨[tI 1 ua, tP 2 2, tB 80 (!u4b)], [bC 2 (GTerm.q u9)], []⟩ (.cons (cimpl_nameOk h19) (.cons (congrArg AV.bool h20) (.cons (congrArg AV.bool h21) (.cons (len_obl GTerm.c u9.gKids) (.cons (cimpl_within h22) .nil))))) ?_
                      rcases oif h with ⟨h23, h⟩ | ⟨h23, h⟩
                      · refine Wc.cT h23 ?_
                        exact (onone h).elim
                      · refine Wc.cF h23 ?_
                        refine Wc.fx [] ⟨[tI 1 ua, tP 2 2], [bC 2 (GTerm.q u9)], []⟩ ?_
                        refine Wc.skip ?_
                        exact ⟨rfl, h⟩
                · refine Wc.cF h18 ?_
                  exact (onone h).elim
        · rintro st ⟨rfl, h⟩
          apply Wc.seq
          refine Wc.r0 ⟨[tI 1 ua, tP 2 2, tI 5 1], [bC 2 (GTerm.q u9)], []⟩ ?_
          apply Wc.seq
          apply Wc.seq
          refine Wc.r2 [{}, {}, { v := some (aI (u9.gKids.length : Int)) }] ⟨[tI 1 ua, tI 5 1, tV 82 (.sl (List.map GTerm.c u9.gKids)), tI 83 (u9.gKids.length : Int), tI 84 0], [], []⟩ (.cons (len_obl GTerm.c u9.gKids) .nil) ?_
          obtain ⟨out2, h2, h⟩ := obind h
          refine Wc.lastJ (fun st => ∃ (un : Int), out2 = .done un ∧ st = ⟨[tI 5 un], [], []⟩) ?_ ?_
          · refine Wc.block ?_
            refine Wc.loop (fun m st => ∃ (us : Int) (u5 : Int), st = ⟨[tI 1 ua, tI 5 us, tV 82 (.sl (List.map GTerm.c u9.gKids)), tI 83 (u9.gKids.length : Int), tI 84 u5], [], []⟩ ∧ pimpl_sized_L2 k (pimpl_sized k) u9 ua m us u5 = some out2) ?_ k ⟨_, _, rfl, h2⟩
            rintro m st ⟨us, u5, rfl, h2⟩
            cases m with
            | zero => exact (onone h2).elim
            | succ m =>
              apply Wc.seq
              refine Wc.r0 ⟨[tI 1 ua, tI 5 us, tV 82 (.sl (List.map GTerm.c u9.gKids)), tI 83 (u9.gKids.length : Int), tI 84 u5, tB 85 (decide (u5 < (u9.gKids.length : Int)))], [], []⟩ ?_
              apply Wc.seq
              rcases oif h2 with ⟨h3, h2⟩ | ⟨h3, h2⟩
              · refine Wc.cT h3 ?_
                refine Wc.fx [] ⟨[tI 1 ua, tI 5 us, tV 82 (.sl (List.map GTerm.c u9.gKids)), tI 83 (u9.gKids.length : Int), tI 84 u5], [], []⟩ ?_
                refine Wc.skip ?_
                apply Wc.seq
                refine Wc.block ?_
                apply Wc.seq
                obtain ⟨u0f, h4, h2⟩ := obind h2
                refine Wc.r2 [{ v := some (.vptr (GTerm.q u0f)) }] ⟨[tI 1 ua, tI 5 us, tP 7 7, tV 82 (.sl (List.map GTerm.c u9.gKids)), tI 83 (u9.gKids.length : Int), tI 84 u5], [bC 7 (GTerm.q u0f)], []⟩ (.cons (at_obl (c := GTerm.c) (GTerm.c_eq u0f) GTerm.c_len h4) (.cons (len_ok 4 (GTerm.q u0f)) .nil)) ?_
                apply Wc.seq
                obtain ⟨zc, h5, h2⟩ := obind h2
                refine Wc.r2 [{}, {}, {}, {}, { r := some (.v (aI zc) []) }] ⟨[tI 1 ua, tI 5 (wr.i64 (us + zc)), tV 82 (.sl (List.map GTerm.c u9.gKids)), tI 83 (u9.gKids.length : Int), tI 84 u5], [], []⟩ (.cons (ih_pimpl_sized h5) .nil) ?_
                apply Wc.seq
                refine Wc.r0 ⟨[tI 1 ua, tI 5 (wr.i64 (us + zc)), tV 82 (.sl (List.map GTerm.c u9.gKids)), tI 83 (u9.gKids.length : Int), tI 84 u5, tB 95 (decide ((wr.i64 (us + zc)) > 400))], [], []⟩ ?_
                rcases oif h2 with ⟨h6, h2⟩ | ⟨h6, h2⟩
                · refine Wc.cT h6 ?_
                  exact (onone h2).elim
                · refine Wc.cF h6 ?_
                  refine Wc.fx [] ⟨[tI 1 ua, tI 5 (wr.i64 (us + zc)), tV 82 (.sl (List.map GTerm.c u9.gKids)), tI 83 (u9.gKids.length : Int), tI 84 u5], [], []⟩ ?_
                  refine Wc.skip ?_
                  refine Wc.r0 ⟨[tI 1 ua, tI 5 (wr.i64 (us + zc)), tV 82 (.sl (List.map GTerm.c u9.gKids)), tI 83 (u9.gKids.length : Int), tI 84 (wr.i64 (u5 + 1))], [], []⟩ ?_
                  exact ⟨_, Nat.lt_succ_self _, _, _, rfl, h2⟩
              · refine Wc.cF h3 ?_
                refine Wc.fx [] ⟨[tI 5 us], [], []⟩ ?_
                refine Wc.exit ?_
                obtain rfl := Option.some.inj h2
                exact ⟨_, rfl, rfl⟩
          · rintro st ⟨un, rfl, rfl⟩
            apply Wc.seq
            refine Wc.r0 ⟨[tI 4 un], [], []⟩ ?_
            obtain rfl := Option.some.inj h; exact Wc.ret dn
theorem cimpl_sized {k : Nat} {u9 : GTerm} {ua : Int} {r : Int} (h : pimpl_sized k u9 ua = some r) : FnO Tryz.prog 81 [.v (.agg (GTerm.q u9)) [], .v (aI ua) []] (.v (aI r) []) [] := (all_pimpl_sized k) h

def pimpl_parser_sign (k : Nat) (u0h : GParser) (vj : Int) : Option (GParser × GSign) :=
  if (decide ((wr.i64 (u0h.gAt + vj)) ≥ (u0h.gList.length : Int))) = true then
    none
  else
    (at' u0h.gList (wr.i64 (u0h.gAt + vj))).bind fun u34 =>
    some (u0h, u34)
theorem cimpl_parser_sign {k : Nat} {u0h : GParser} {vj : Int} {r : GParser × GSign} (h : pimpl_parser_sign k u0h vj = some r) : FnO Tryz.prog 54 [.p (GParser.q u0h) [], .v (aI vj) []] (.v (.agg (GSign.q r.2)) []) [(0, .p (GParser.q r.1) [])] := by
  refine FnO.o2 Tryz.func54 (rfl : Tryz.f54.body = some _) ?_
  intro w0 X0 Fin pv0 pb gt
  unfold pimpl_parser_sign at h
  apply Wc.seq
  refine Wc.r0 ⟨[tP 0 1000000, tI 1 vj, tP 4 4], [bC 4 GSign.z, bC 1000000 (GParser.q u0h)], []⟩ ?_
  apply Wc.seq
  apply Wc.seq
  refine Wc.draw hmix [{}, {}, {}, {}, {}, {}, {}, {}, {}, {}, { v := some (aI (u0h.gList.length : Int)) }] [] [0, 1, 4, 16] [4, 1000000] [] ⟨[tP 0 1000000, tI 1 vj, tP 4 4, tB 16 (decide ((wr.i64 (u0h.gAt + vj)) ≥ (u0h.gList.length : Int)))], [bC 4 GSign.z, bC 1000000 (GParser.q u0h)], []⟩ _ (by kernel_rfl) (fun X => by kernel_rfl) (.cons (len_obl GSign.c u0h.gList) .nil) ?_
  rcases oif h with ⟨h3, h⟩ | ⟨h3, h⟩
  · refine Wc.cT h3 ?_
    exact (onone h).elim
  · refine Wc.cF h3 ?_
    refine Wc.fx [] ⟨[tP 0 1000000, tI 1 vj, tP 4 4], [bC 4 GSign.z, bC 1000000 (GParser.q u0h)], []⟩ ?_
    refine Wc.skip ?_
    apply Wc.seq
    obtain ⟨u34, h4, h⟩ := obind h
    refine Wc.draw hmix [{}, {}, {}, {}, {}, {}, {}, {}, {}, {}, { v := some (.vptr (GSign.q u34)) }] [] [4] [4, 1000000] [] ⟨[tP 4 4], [bC 4 (GSign.q u34), bC 1000000 (GParser.q u0h)], []⟩ _ (by kernel_rfl) (fun X => by kernel_rfl) (.cons (at_obl (c := GSign.c) (GSign.c_eq u34) GSign.c_len h4) (.cons (len_ok 5 (GSign.q u34)) .nil)) ?_
    obtain rfl := Option.some.inj h; exact Wc.ret dn

def pimpl_PrefixOf (k : Nat) (uv : ByteArray) : Option (GOp × Bool) :=
  if (sEq uv (bs [58, 45])) = true then
    none
  else
    if (sEq uv (bs [92, 43])) = true then
      none
    else
      if (sEq uv (bs [45])) = true then
        none
      else
        some (GOp.mk (bs []) 0 0 0, false)
theorem cimpl_PrefixOf {k : Nat} {uv : ByteArray} {r : GOp × Bool} (h : pimpl_PrefixOf k uv = some r) : FnO Tryz.prog 105 [.v (.str uv) []] (.v (.tup [.agg (GOp.q r.1), .bool r.2]) []) [] := by
  refine FnO.o2 Tryz.func105 (rfl : Tryz.f105.body = some _) ?_
  intro w0 X0 Fin pv0 pb gt
  unfold pimpl_PrefixOf at h
  apply Wc.seq
  refine Wc.r0 ⟨[tS 0 uv, tP 2 2], [bC 2 GOp.z], []⟩ ?_
  apply Wc.seq
  apply Wc.seq
  refine Wc.r0 ⟨[tP 2 2, tS 4 uv], [bC 2 GOp.z], []⟩ ?_
  refine Wc.block ?_
  apply Wc.seq
  refine Wc.r0 ⟨[tP 2 2, tS 4 uv, tB 5 (sEq uv (bs [58, 45]))], [bC 2 GOp.z], []⟩ ?_
  rcases oif h with ⟨h4, h⟩ | ⟨h4, h⟩
  · refine Wc.cT h4 ?_
    exact (onone h).elim
  · refine Wc.cF h4 ?_
    apply Wc.seq
    refine Wc.r0 ⟨[tP 2 2, tS 4 uv, tB 9 (sEq uv (bs [92, 43]))], [bC 2 GOp.z], []⟩ ?_
    rcases oif h with ⟨h5, h⟩ | ⟨h5, h⟩
    · refine Wc.cT h5 ?_
      exact (onone h).elim
    · refine Wc.cF h5 ?_
      apply Wc.seq
      refine Wc.r0 ⟨[tP 2 2, tB 13 (sEq uv (bs [45]))], [bC 2 GOp.z], []⟩ ?_
      rcases oif h with ⟨h6, h⟩ | ⟨h6, h⟩
      · refine Wc.cT h6 ?_
        exact (onone h).elim
      · refine Wc.cF h6 ?_
        refine Wc.fx [] ⟨[tP 2 2], [bC 2 GOp.z], []⟩ ?_
        refine Wc.skip ?_
        apply Wc.seq
        refine Wc.r0 ⟨[tP 2 2, tB 3 false], [bC 2 GOp.z], []⟩ ?_
        obtain rfl := Option.some.inj h; exact Wc.ret dn

def pimpl_InfixOf_J3 (k : Nat) (ub : ByteArray) (u0g : Bool) : Option (GOp × Bool) :=
  if u0g = true then
    none
  else
    if (sEq ub (bs [42])) = true then
      if (sEq ub (bs [42])) = true then
        none
      else
        some (GOp.mk (bs []) 0 0 0, false)
    else
      if (sEq ub (bs [47, 47])) = true then
        none
      else
        some (GOp.mk (bs []) 0 0 0, false)
def pimpl_InfixOf_J2 (k : Nat) (ub : ByteArray) (u0l : Bool) : Option (GOp × Bool) :=
  if u0l = true then
    none
  else
    if (sEq ub (bs [43])) = true then
      pimpl_InfixOf_J3 k ub (sEq ub (bs [43]))
    else
      pimpl_InfixOf_J3 k ub (sEq ub (bs [45]))
def pimpl_InfixOf_J1 (k : Nat) (ub : ByteArray) (zw : Bool) : Option (GOp × Bool) :=
  if zw = true then
    none
  else
    if (sEq ub (bs [59])) = true then
      none
    else
      if (sEq ub (bs [45, 62])) = true then
        none
      else
        if (sEq ub (bs [44])) = true then
          none
        else
          if (sEq ub (bs [61])) = true then
            pimpl_InfixOf_J2 k ub (sEq ub (bs [61]))
          else
            if (sEq ub (bs [92, 61])) = true then
              pimpl_InfixOf_J2 k ub (sEq ub (bs [92, 61]))
            else
              if (sEq ub (bs [61, 61])) = true then
                pimpl_InfixOf_J2 k ub (sEq ub (bs [61, 61]))
              else
                if (sEq ub (bs [105, 115])) = true then
                  pimpl_InfixOf_J2 k ub (sEq ub (bs [105, 115]))
                else
                  if (sEq ub (bs [60])) = true then
                    pimpl_InfixOf_J2 k ub (sEq ub (bs [60]))
                  else
                    pimpl_InfixOf_J2 k ub (sEq ub (bs [61, 58, 61]))
def pimpl_InfixOf (k : Nat) (ub : ByteArray) : Option (GOp × Bool) :=
  if (sEq ub (bs [58, 45])) = true then
    pimpl_InfixOf_J1 k ub (sEq ub (bs [58, 45]))
  else
    pimpl_InfixOf_J1 k ub (sEq ub (bs [45, 45, 62]))
theorem cimpl_InfixOf {k : Nat} {ub : ByteArray} {r : GOp × Bool} (h : pimpl_InfixOf k ub = some r) : FnO Tryz.prog 79 [.v (.str ub) []] (.v (.tup [.agg (GOp.q r.1), .bool r.2]) []) [] := by
  refine FnO.o2 Tryz.func79 (rfl : Tryz.f79.body = some _) ?_
  intro w0 X0 Fin pv0 pb gt
  unfold pimpl_InfixOf at h
  apply Wc.seq
  refine Wc.r0 ⟨[tS 0 ub, tP 2 2], [bC 2 GOp.z], []⟩ ?_
  apply Wc.seq
  apply Wc.seq
  refine Wc.r0 ⟨[tP 2 2, tS 4 ub], [bC 2 GOp.z], []⟩ ?_
  refine Wc.block ?_
  refine Wc.seqJ (fun st => ∃ (zw : Bool), st = ⟨[tP 2 2, tS 4 ub, tB 5 zw], [bC 2 GOp.z], []⟩ ∧ pimpl_InfixOf_J1 k ub zw = some r) ?_ ?_
  · apply Wc.seq
    refine Wc.r0 ⟨[tP 2 2, tS 4 ub, tB 5 (sEq ub (bs [58, 45]))], [bC 2 GOp.z], []⟩ ?_
    rcases oif h with ⟨h20, h⟩ | ⟨h20, h⟩
    · refine Wc.cT h20 ?_
      refine Wc.skip ?_
      exact ⟨_, rfl, h⟩
    · refine Wc.cF h20 ?_
      refine Wc.r0 ⟨[tP 2 2, tS 4 ub, tB 5 (sEq ub (bs [45, 45, 62]))], [bC 2 GOp.z], []⟩ ?_
      exact ⟨_, rfl, h⟩
  · rintro st ⟨zw, rfl, h⟩
    rcases oif h with ⟨h5, h⟩ | ⟨h5, h⟩
    · refine Wc.cT h5 ?_
      exact (onone h).elim
    · refine Wc.cF h5 ?_
      apply Wc.seq
      refine Wc.r0 ⟨[tP 2 2, tS 4 ub, tB 10 (sEq ub (bs [59]))], [bC 2 GOp.z], []⟩ ?_
      rcases oif h with ⟨h6, h⟩ | ⟨h6, h⟩
      · refine Wc.cT h6 ?_
        exact (onone h).elim
      · refine Wc.cF h6 ?_
        apply Wc.seq
        refine Wc.r0 ⟨[tP 2 2, tS 4 ub, tB 14 (sEq ub (bs [45, 62]))], [bC 2 GOp.z], []⟩ ?_
        rcases oif h with ⟨h7, h⟩ | ⟨h7, h⟩
        · refine Wc.cT h7 ?_
          exact (onone h).elim
        · refine Wc.cF h7 ?_
          apply Wc.seq
          refine Wc.r0 ⟨[tP 2 2, tS 4 ub, tB 18 (sEq ub (bs [44]))], [bC 2 GOp.z], []⟩ ?_
          rcases oif h with ⟨h8, h⟩ | ⟨h8, h⟩
          · refine Wc.cT h8 ?_
            exact (onone h).elim
          · refine Wc.cF h8 ?_
            refine Wc.seqJ (fun st => ∃ (u0l : Bool), st = ⟨[tP 2 2, tS 4 ub, tB 22 u0l], [bC 2 GOp.z], []⟩ ∧ pimpl_InfixOf_J2 k ub u0l = some r) ?_ ?_
            · apply Wc.seq
              refine Wc.r0 ⟨[tP 2 2, tS 4 ub, tB 22 (sEq ub (bs [61]))], [bC 2 GOp.z], []⟩ ?_
              rcases oif h with ⟨h15, h⟩ | ⟨h15, h⟩
              · refine Wc.cT h15 ?_
                refine Wc.skip ?_
                exact ⟨_, rfl, h⟩
              · refine Wc.cF h15 ?_
                apply Wc.seq
                refine Wc.r0 ⟨[tP 2 2, tS 4 ub, tB 22 (sEq ub (bs [92, 61]))], [bC 2 GOp.z], []⟩ ?_
                rcases oif h with ⟨h16, h⟩ | ⟨h16, h⟩
                · refine Wc.cT h16 ?_
                  refine Wc.skip ?_
                  exact ⟨_, rfl, h⟩
                · refine Wc.cF h16 ?_
                  apply Wc.seq
                  refine Wc.r0 ⟨[tP 2 2, tS 4 ub, tB 22 (sEq ub (bs [61, 61]))], [bC 2 GOp.z], []⟩ ?_
                  rcases oif h with ⟨h17, h⟩ | ⟨h17, h⟩
                  · refine Wc.cT h17 ?_
                    refine Wc.skip ?_
                    exact ⟨_, rfl, h⟩
                  · refine Wc.cF h17 ?_
                    apply Wc.seq
                    refine Wc.r0 ⟨[tP 2 2, tS 4 ub, tB 22 (sEq ub (bs [105, 115]))], [bC 2 GOp.z], []⟩ ?_
                    rcases oif h with ⟨h18, h⟩ | ⟨h18, h⟩
                    · refine Wc.cT h18 ?_
                      refine Wc.skip ?_
                      exact ⟨_, rfl, h⟩
                    · refine Wc.cF h18 ?_
                      apply Wc.seq
                      refine Wc.r0 ⟨[tP 2 2, tS 4 ub, tB 22 (sEq ub (bs [60]))], [bC 2 GOp.z], []⟩ ?_
                      rcases oif h with ⟨h19, h⟩ | ⟨h19, h⟩
                      · refine Wc.cT h19 ?_
                        refine Wc.skip ?_
                        exact ⟨_, rfl, h⟩
                      · refine Wc.cF h19 ?_
                        refine Wc.r0 ⟨[tP 2 2, tS 4 ub, tB 22 (sEq ub (bs [61, 58, 61]))], [bC 2 GOp.z], []⟩ ?_
                        exact ⟨_, rfl, h⟩
            · rintro st ⟨u0l, rfl, h⟩
              rcases oif h with ⟨h9, h⟩ | ⟨h9, h⟩
              · refine Wc.cT h9 ?_
                exact (onone h).elim
              · refine Wc.cF h9 ?_
                refine Wc.seqJ (fun st => ∃ (u0g : Bool), st = ⟨[tP 2 2, tS 4 ub, tB 31 u0g], [bC 2 GOp.z], []⟩ ∧ pimpl_InfixOf_J3 k ub u0g = some r) ?_ ?_
                · apply Wc.seq
                  refine Wc.r0 ⟨[tP 2 2, tS 4 ub, tB 31 (sEq ub (bs [43]))], [bC 2 GOp.z], []⟩ ?_
                  rcases oif h with ⟨h14, h⟩ | ⟨h14, h⟩
                  · refine Wc.cT h14 ?_
                    refine Wc.skip ?_
                    exact ⟨_, rfl, h⟩
                  · refine Wc.cF h14 ?_
                    refine Wc.r0 ⟨[tP 2 2, tS 4 ub, tB 31 (sEq ub (bs [45]))], [bC 2 GOp.z], []⟩ ?_
                    exact ⟨_, rfl, h⟩
                · rintro st ⟨u0g, rfl, h⟩
                  rcases oif h with ⟨h10, h⟩ | ⟨h10, h⟩
                  · refine Wc.cT h10 ?_
                    exact (onone h).elim
                  · refine Wc.cF h10 ?_
                    apply Wc.seq
                    apply Wc.seq
                    refine Wc.r0 ⟨[tP 2 2, tS 4 ub, tB 36 (sEq ub (bs [42]))], [bC 2 GOp.z], []⟩ ?_
                    rcases oif h with ⟨h11, h⟩ | ⟨h11, h⟩
                    · refine Wc.cT h11 ?_
                      refine Wc.fx [] ⟨[tP 2 2, tB 36 (sEq ub (bs [42]))], [bC 2 GOp.z], []⟩ ?_
                      refine Wc.skip ?_
                      rcases oif h with ⟨h12, h⟩ | ⟨h12, h⟩
                      · refine Wc.cT h12 ?_
                        exact (onone h).elim
                      · refine Wc.cF h12 ?_
                        refine Wc.fx [] ⟨[tP 2 2], [bC 2 GOp.z], []⟩ ?_
                        refine Wc.skip ?_
                        apply Wc.seq
                        refine Wc.r0 ⟨[tP 2 2, tB 3 false], [bC 2 GOp.z], []⟩ ?_
                        obtain rfl := Option.some.inj h; exact Wc.ret dn
                    · refine Wc.cF h11 ?_
                      refine Wc.r0 ⟨[tP 2 2, tB 36 (sEq ub (bs [47, 47]))], [bC 2 GOp.z], []⟩ ?_
                      rcases oif h with ⟨h13, h⟩ | ⟨h13, h⟩
                      · refine Wc.cT h13 ?_
                        exact (onone h).elim
                      · refine Wc.cF h13 ?_
                        refine Wc.fx [] ⟨[tP 2 2], [bC 2 GOp.z], []⟩ ?_
                        refine Wc.skip ?_
                        apply Wc.seq
                        refine Wc.r0 ⟨[tP 2 2, tB 3 false], [bC 2 GOp.z], []⟩ ?_
                        obtain rfl := Option.some.inj h; exact Wc.ret dn

def pimpl_parser_isMark (k : Nat) (u3k : GParser) (u6 : Int) (ud : ByteArray) : Option (GParser × Bool) :=
  (pimpl_parser_sign k u3k u6).bind fun u19 =>
  if (u19.2.gKind == 4) = true then
    some (u19.1, sEq u19.2.gText ud)
  else
    some (u19.1, false)
theorem cimpl_parser_isMark {k : Nat} {u3k : GParser} {u6 : Int} {ud : ByteArray} {r : GParser × Bool} (h : pimpl_parser_isMark k u3k u6 ud = some r) : FnO Tryz.prog 108 [.p (GParser.q u3k) [], .v (aI u6) [], .v (.str ud) []] (.v (.bool r.2) []) [(0, .p (GParser.q r.1) [])] := by
  refine FnO.o2 Tryz.func108 (rfl : Tryz.f108.body = some _) ?_
  intro w0 X0 Fin pv0 pb gt
  unfold pimpl_parser_isMark at h
  apply Wc.seq
  refine Wc.r0 ⟨[tP 0 1000000, tI 1 u6, tS 2 ud], [bC 1000000 (GParser.q u3k)], []⟩ ?_
  apply Wc.seq
  obtain ⟨u19, h8, h⟩ := obind h
  refine Wc.r2 [{}, {}, { r := some (.v (.agg (GSign.q u19.2)) []), outs := [(0, .p (GParser.q u19.1) [])] }] ⟨[tS 2 ud, tP 7 7], [bC 7 (GSign.q u19.2), bC 1000000 (GParser.q u19.1)], []⟩ (.cons (cimpl_parser_sign h8) .nil) ?_
  apply Wc.seq
  rcases oif h with ⟨h9, h⟩ | ⟨h9, h⟩
  · refine Wc.r2 [{}, {}, {}, { re := some (.bool true) }] ⟨[tB 6 (sEq u19.2.gText ud)], [bC 1000000 (GParser.q u19.1)], []⟩ (.cons (congrArg AV.bool h9) .nil) ?_
    obtain rfl := Option.some.inj h; exact Wc.ret dn
  · refine Wc.r2 [{}, {}, {}, { re := some (.bool false) }] ⟨[tB 6 false], [bC 1000000 (GParser.q u19.1)], []⟩ (.cons (congrArg AV.bool h9) .nil) ?_
    obtain rfl := Option.some.inj h; exact Wc.ret dn

def pimpl_parser_mark (k : Nat) (u4c : GParser) (zh : ByteArray) : Option GParser :=
  (pimpl_parser_isMark k u4c 0 zh).bind fun u0b =>
  if (!u0b.2) = true then
    none
  else
    some (GParser.mk u0b.1.gList (wr.i64 (u0b.1.gAt + 1)) u0b.1.gNames u0b.1.gDeep u0b.1.gBad)
theorem cimpl_parser_mark {k : Nat} {u4c : GParser} {zh : ByteArray} {r : GParser} (h : pimpl_parser_mark k u4c zh = some r) : FnO Tryz.prog 106 [.p (GParser.q u4c) [], .v (.str zh) []] (.v (.tup []) []) [(0, .p (GParser.q r) [])] := by
  refine FnO.o2 Tryz.func106 (rfl : Tryz.f106.body = some _) ?_
  intro w0 X0 Fin pv0 pb gt
  unfold pimpl_parser_mark at h
  apply Wc.seq
  apply Wc.seq
  obtain ⟨u0b, h8, h⟩ := obind h
  refine Wc.r2 [{}, {}, { r := some (.v (.bool u0b.2) []), outs := [(0, .p (GParser.q u0b.1) [])] }] ⟨[tP 0 1000000, tB 7 (!u0b.2)], [bC 1000000 (GParser.q u0b.1)], []⟩ (.cons (cimpl_parser_isMark h8) .nil) ?_
  rcases oif h with ⟨h9, h⟩ | ⟨h9, h⟩
  · refine Wc.cT h9 ?_
    exact (onone h).elim
  · refine Wc.cF h9 ?_
    refine Wc.fx [] ⟨[tP 0 1000000], [bC 1000000 (GParser.q u0b.1)], []⟩ ?_
    refine Wc.skip ?_
    refine Wc.r0 ⟨[], [bC 1000000 [.sl (List.map GSign.c u0b.1.gList), aI (wr.i64 (u0b.1.gAt + 1)), .sl (List.map cS u0b.1.gNames), aI u0b.1.gDeep, .bool u0b.1.gBad]], []⟩ ?_
    obtain rfl := Option.some.inj h
    exact ⟨(by first | exact .inl rfl | exact .inr rfl), by kernel_rfl, by kernel_rfl⟩

def pimpl_structure (k : Nat) (u0c : ByteArray) (u35 : List GTerm) : Option GTerm :=
  some (GTerm.mk 4 u0c 0 u35)
theorem cimpl_structure {k : Nat} {u0c : ByteArray} {u35 : List GTerm} {r : GTerm} (h : pimpl_structure k u0c u35 = some r) : FnO Tryz.prog 80 [.v (.str u0c) [], .v (.sl (List.map GTerm.c u35)) []] (.v (.agg (GTerm.q r)) []) [] := by
  refine FnO.o2 Tryz.func80 (rfl : Tryz.f80.body = some _) ?_
  intro w0 X0 Fin pv0 pb gt
  unfold pimpl_structure at h
  apply Wc.seq
  refine Wc.r0 ⟨[tS 0 u0c, tV 1 (.sl (List.map GTerm.c u35)), tP 4 4], [(4, .cells GTerm.z [(3, .app 41)])], []⟩ ?_
  apply Wc.seq
  refine Wc.r0 ⟨[tP 4 4], [bC 4 [aI 4, .str u0c, aI 0, .sl (List.map GTerm.c u35)]], []⟩ ?_
  obtain rfl := Option.some.inj h; exact Wc.ret dn

def pimpl_number (k : Nat) (ue : Int) : Option GTerm :=
  some (GTerm.mk 3 (bs []) ue [])
theorem cimpl_number {k : Nat} {ue : Int} {r : GTerm} (h : pimpl_number k ue = some r) : FnO Tryz.prog 110 [.v (aI ue) []] (.v (.agg (GTerm.q r)) [(3, .app 41)]) [] := by
  refine FnO.o2 Tryz.func110 (rfl : Tryz.f110.body = some _) ?_
  intro w0 X0 Fin pv0 pb gt
  unfold pimpl_number at h
  apply Wc.seq
  refine Wc.r0 ⟨[tI 0 ue, tP 2 2], [(2, .cells GTerm.z [(3, .app 41)])], []⟩ ?_
  apply Wc.seq
  refine Wc.r1 [{}, {}, { tk := [4] }] ⟨[tP 2 2], [(2, .cells [aI 3, .str (bs []), aI ue, .sl (List.map GTerm.c [])] [(3, .app 41)])], []⟩ ?_
  obtain rfl := Option.some.inj h; exact Wc.ret dn

def pimpl_parser_primary_J4 (k : Nat) (rimpl_parser_primary : GParser → Int → Option (GParser × GTerm × Int)) (rimpl_parser_term : GParser → Int → Option (GParser × GTerm)) (rimpl_parser_terms : GParser → Option (GParser × (List GTerm))) (ug : GParser × GSign) (uk : GOp × Bool) (v2 : GOp × Bool) (u7 : GParser × Bool) (u3l : Bool) : Option (GParser × GTerm × Int) :=
  if u3l = true then
    none
  else
    if (ug.2.gKind == 1) = true then
      if (!uk.2) = true then
        if (!v2.2) = true then
          none
        else
          some (GParser.mk u7.1.gList u7.1.gAt u7.1.gNames u7.1.gDeep true, GTerm.mk 0 (bs []) 0 [], 0)
      else
        some (GParser.mk u7.1.gList u7.1.gAt u7.1.gNames u7.1.gDeep true, GTerm.mk 0 (bs []) 0 [], 0)
    else
      some (GParser.mk u7.1.gList u7.1.gAt u7.1.gNames u7.1.gDeep true, GTerm.mk 0 (bs []) 0 [], 0)
def pimpl_parser_primary_J3 (k : Nat) (rimpl_parser_primary : GParser → Int → Option (GParser × GTerm × Int)) (rimpl_parser_term : GParser → Int → Option (GParser × GTerm)) (rimpl_parser_terms : GParser → Option (GParser × (List GTerm))) (ug : GParser × GSign) (uk : GOp × Bool) (v2 : GOp × Bool) (u7 : GParser × Bool) (v4 : Int) (u3m : Bool) : Option (GParser × GTerm × Int) :=
  if u3m = true then
    none
  else
    if (ug.2.gKind == 1) = true then
      if uk.2 = true then
        pimpl_parser_primary_J4 k rimpl_parser_primary rimpl_parser_term rimpl_parser_terms ug uk v2 u7 (decide (uk.1.gPrio ≤ v4))
      else
        pimpl_parser_primary_J4 k rimpl_parser_primary rimpl_parser_term rimpl_parser_terms ug uk v2 u7 false
    else
      pimpl_parser_primary_J4 k rimpl_parser_primary rimpl_parser_term rimpl_parser_terms ug uk v2 u7 false
def pimpl_parser_primary_J2 (k : Nat) (rimpl_parser_primary : GParser → Int → Option (GParser × GTerm × Int)) (rimpl_parser_term : GParser → Int → Option (GParser × GTerm)) (rimpl_parser_terms : GParser → Option (GParser × (List GTerm))) (ug : GParser × GSign) (v9 : GParser × GSign) (uk : GOp × Bool) (v2 : GOp × Bool) (v4 : Int) (u3n : Bool) (u3o : GParser) : Option (GParser × GTerm × Int) :=
  if u3n = true then
    none
  else
    (pimpl_parser_isMark k u3o 0 (bs [40])).bind fun u2p =>
    if u2p.2 = true then
      none
    else
      (pimpl_parser_isMark k u2p.1 0 (bs [91])).bind fun u7 =>
      if u7.2 = true then
        none
      else
        if (ug.2.gKind == 3) = true then
          (pimpl_number k ug.2.gNum).bind fun u3p =>
          some (GParser.mk u7.1.gList (wr.i64 (u7.1.gAt + 1)) u7.1.gNames u7.1.gDeep u7.1.gBad, u3p, 0)
        else
          if (ug.2.gKind == 2) = true then
            none
          else
            if (ug.2.gKind == 1) = true then
              if (sEq ug.2.gText (bs [45])) = true then
                if (v9.2.gKind == 3) = true then
                  pimpl_parser_primary_J3 k rimpl_parser_primary rimpl_parser_term rimpl_parser_terms ug uk v2 u7 v4 (v9.2.gAt == (wr.i64 (ug.2.gAt + 1)))
                else
                  pimpl_parser_primary_J3 k rimpl_parser_primary rimpl_parser_term rimpl_parser_terms ug uk v2 u7 v4 false
              else
                pimpl_parser_primary_J3 k rimpl_parser_primary rimpl_parser_term rimpl_parser_terms ug uk v2 u7 v4 false
            else
              pimpl_parser_primary_J3 k rimpl_parser_primary rimpl_parser_term rimpl_parser_terms ug uk v2 u7 v4 false
def pimpl_parser_primary_J1 (k : Nat) (rimpl_parser_primary : GParser → Int → Option (GParser × GTerm × Int)) (rimpl_parser_term : GParser → Int → Option (GParser × GTerm)) (rimpl_parser_terms : GParser → Option (GParser × (List GTerm))) (v9 : GParser × GSign) (ug : GParser × GSign) (uk : GOp × Bool) (v2 : GOp × Bool) (v4 : Int) (u1f : Bool) : Option (GParser × GTerm × Int) :=
  if u1f = true then
    (pimpl_parser_mark k (GParser.mk v9.1.gList (wr.i64 (v9.1.gAt + 1)) v9.1.gNames v9.1.gDeep v9.1.gBad) (bs [40])).bind fun u4d =>
    (rimpl_parser_terms u4d).bind fun u0u =>
    (pimpl_parser_mark k u0u.1 (bs [41])).bind fun u2q =>
    if (decide ((u0u.2.length : Int) > 5)) = true then
      none
    else
      (pimpl_structure k ug.2.gText u0u.2).bind fun u4e =>
      some (u2q, u4e, 0)
  else
    (pimpl_parser_isMark k v9.1 0 (bs [40])).bind fun u12 =>
    if u12.2 = true then
      if (v9.2.gKind == 1) = true then
        (pimpl_parser_isMark k u12.1 2 (bs [41])).bind fun u2r =>
        pimpl_parser_primary_J2 k rimpl_parser_primary rimpl_parser_term rimpl_parser_terms ug v9 uk v2 v4 u2r.2 u2r.1
      else
        pimpl_parser_primary_J2 k rimpl_parser_primary rimpl_parser_term rimpl_parser_terms ug v9 uk v2 v4 false u12.1
    else
      pimpl_parser_primary_J2 k rimpl_parser_primary rimpl_parser_term rimpl_parser_terms ug v9 uk v2 v4 false u12.1
def pimpl_parser_term_J2 (k : Nat) (rimpl_parser_primary : GParser → Int → Option (GParser × GTerm × Int)) (rimpl_parser_term : GParser → Int → Option (GParser × GTerm)) (rimpl_parser_terms : GParser → Option (GParser × (List GTerm))) (bk_ : Int → GTerm → GParser → Option (Out (GParser × GTerm) (GTerm × GParser))) (uz : GParser × GSign) (vv : GOp × Bool) (va : GTerm) : Option (Out (GParser × GTerm) (GTerm × GParser)) :=
  (rimpl_parser_term (GParser.mk uz.1.gList (wr.i64 (uz.1.gAt + 1)) uz.1.gNames uz.1.gDeep uz.1.gBad) vv.1.gRight).bind fun u1q =>
  (pimpl_structure k vv.1.gName [va, u1q.2]).bind fun u3q =>
  bk_ vv.1.gPrio u3q u1q.1
def pimpl_parser_term_L1 (k : Nat) (rimpl_parser_primary : GParser → Int → Option (GParser × GTerm × Int)) (rimpl_parser_term : GParser → Int → Option (GParser × GTerm)) (rimpl_parser_terms : GParser → Option (GParser × (List GTerm))) (vg : Int) : Nat → Int → GTerm → GParser → Option (Out (GParser × GTerm) (GTerm × GParser))
  | 0, _, _, _ => none
  | m + 1, u1a, va, u1j =>
    if (!u1j.gBad) = true then
      (pimpl_parser_sign k u1j 0).bind fun uz =>
      (pimpl_InfixOf k uz.2.gText).bind fun vv =>
      if (!vv.2) = true then
        some (.done (va, uz.1))
      else
        if (uz.2.gKind != 4) = true then
          if (uz.2.gKind != 1) = true then
            some (.done (va, uz.1))
          else
            if uz.2.gNear = true then
              some (.done (va, uz.1))
            else
              if (decide (vv.1.gPrio > vg)) = true then
                some (.done (va, uz.1))
              else
                if (decide (vv.1.gLeft < u1a)) = true then
                  some (.done (va, uz.1))
                else
                  pimpl_parser_term_J2 k rimpl_parser_primary rimpl_parser_term rimpl_parser_terms (pimpl_parser_term_L1 k rimpl_parser_primary rimpl_parser_term rimpl_parser_terms vg m) uz vv va
        else
          if (decide (vv.1.gPrio > vg)) = true then
            some (.done (va, uz.1))
          else
            if (decide (vv.1.gLeft < u1a)) = true then
              some (.done (va, uz.1))
            else
              pimpl_parser_term_J2 k rimpl_parser_primary rimpl_parser_term rimpl_parser_terms (pimpl_parser_term_L1 k rimpl_parser_primary rimpl_parser_term rimpl_parser_terms vg m) uz vv va
    else
      some (.done (va, u1j))
def pimpl_parser_terms_L1 (k : Nat) (rimpl_parser_primary : GParser → Int → Option (GParser × GTerm × Int)) (rimpl_parser_term : GParser → Int → Option (GParser × GTerm)) (rimpl_parser_terms : GParser → Option (GParser × (List GTerm))) : Nat → (List GTerm) → GParser → Option (Out (GParser × (List GTerm)) ((List GTerm) × GParser))
  | 0, _, _ => none
  | m + 1, u08, u25 =>
    if (!u25.gBad) = true then
      (pimpl_parser_isMark k u25 0 (bs [44])).bind fun u04 =>
      if u04.2 = true then
        (rimpl_parser_term (GParser.mk u04.1.gList (wr.i64 (u04.1.gAt + 1)) u04.1.gNames u04.1.gDeep u04.1.gBad) 999).bind fun u0m =>
        if u08.length + [u0m.2].length ≤ 1073741824 then
          pimpl_parser_terms_L1 k rimpl_parser_primary rimpl_parser_term rimpl_parser_terms m (u08 ++ [u0m.2]) u0m.1
        else none
      else
        some (.done (u08, u04.1))
    else
      some (.done (u08, u25))
mutual
def pimpl_parser_primary : Nat → GParser → Int → Option (GParser × GTerm × Int)
  | 0, _, _ => none
  | k + 1, u1r, v4 =>
    (pimpl_parser_sign k u1r 0).bind fun ug =>
    (pimpl_PrefixOf k ug.2.gText).bind fun uk =>
    (pimpl_InfixOf k ug.2.gText).bind fun v2 =>
    (pimpl_parser_sign k ug.1 1).bind fun v9 =>
    if (ug.2.gKind == 1) = true then
      pimpl_parser_primary_J1 k (pimpl_parser_primary k) (pimpl_parser_term k) (pimpl_parser_terms k) v9 ug uk v2 v4 ug.2.gNear
    else
      pimpl_parser_primary_J1 k (pimpl_parser_primary k) (pimpl_parser_term k) (pimpl_parser_terms k) v9 ug uk v2 v4 false
def pimpl_parser_term : Nat → GParser → Int → Option (GParser × GTerm)
  | 0, _, _ => none
  | k + 1, zk, vg =>
    if (zk.gDeep == 130) = true then
      none
    else
      if zk.gBad = true then
        none
      else
        (pimpl_parser_primary k (GParser.mk zk.gList zk.gAt zk.gNames (wr.i64 (zk.gDeep + 1)) zk.gBad) vg).bind fun u1s =>
        (pimpl_parser_term_L1 k (pimpl_parser_primary k) (pimpl_parser_term k) (pimpl_parser_terms k) vg k u1s.2.2 u1s.2.1 u1s.1).bind fun out1 => match out1 with
        | .ret r => some r
        | .done (u2s, u05) =>
          some (GParser.mk u05.gList u05.gAt u05.gNames (wr.i64 (u05.gDeep - 1)) u05.gBad, u2s)
def pimpl_parser_terms : Nat → GParser → Option (GParser × (List GTerm))
  | 0, _ => none
  | k + 1, u1t =>
    (pimpl_parser_term k u1t 999).bind fun u1u =>
    (pimpl_parser_terms_L1 k (pimpl_parser_primary k) (pimpl_parser_term k) (pimpl_parser_terms k) k [u1u.2] u1u.1).bind fun out1 => match out1 with
    | .ret r => some r
    | .done (u36, u37) =>
      some (u37, u36)
end
set_option maxHeartbeats 4000000 in
theorem all_pimpl_parser_primary : ∀ k : Nat, (∀ {u1r : GParser} {v4 : Int} {r : GParser × GTerm × Int}, pimpl_parser_primary k u1r v4 = some r → FnO Tryz.prog 78 [.p (GParser.q u1r) [], .v (aI v4) []] (.v (.tup [.agg (GTerm.q r.2.1), aI r.2.2]) []) [(0, .p (GParser.q r.1) [])]) ∧
    (∀ {zk : GParser} {vg : Int} {r : GParser × GTerm}, pimpl_parser_term k zk vg = some r → FnO Tryz.prog 53 [.p (GParser.q zk) [], .v (aI vg) []] (.v (.agg (GTerm.q r.2)) []) [(0, .p (GParser.q r.1) [])]) ∧
    (∀ {u1t : GParser} {r : GParser × (List GTerm)}, pimpl_parser_terms k u1t = some r → FnO Tryz.prog 107 [.p (GParser.q u1t) []] (.v (.sl (List.map GTerm.c r.2)) [(0, .app 41)]) [(0, .p (GParser.q r.1) [])]) := by
  intro k
  induction k with
  | zero =>
    refine ⟨?_, ?_, ?_⟩
    · intro u1r v4 r h
      exact (onone (by rw [pimpl_parser_primary] at h; exact h)).elim
    · intro zk vg r h
      exact (onone (by rw [pimpl_parser_term] at h; exact h)).elim
    · intro u1t r h
      exact (onone (by rw [pimpl_parser_terms] at h; exact h)).elim
  | succ k ih =>
    obtain ⟨ih_pimpl_parser_primary, ih_pimpl_parser_term, ih_pimpl_parser_terms⟩ := ih
    refine ⟨?_, ?_, ?_⟩
    · intro u1r v4 r h
      rw [pimpl_parser_primary] at h
      refine FnO.o2 Tryz.func78 (rfl : Tryz.f78.body = some _) ?_
      intro w0 X0 Fin pv0 pb gt
      apply Wc.seq
      refine Wc.r0 ⟨[tP 0 1000000, tI 1 v4, tP 4 4], [(4, .cells GTerm.z [(3, .app 41)]), bC 1000000 (GParser.q u1r)], []⟩ ?_
      apply Wc.seq
      obtain ⟨ug, h59, h⟩ := obind h
      refine Wc.r2 [{}, { r := some (.v (.agg (GSign.q ug.2)) []), outs := [(0, .p (GParser.q ug.1) [])] }] ⟨[tP 0 1000000, tI 1 v4, tP 4 4, tP 6 6], [(4, .cells GTerm.z [(3, .app 41)]), bC 6 (GSign.q ug.2), bC 1000000 (GParser.q ug.1)], []⟩ (.cons (cimpl_parser_sign h59) .nil) ?_
      apply Wc.seq
      obtain ⟨uk, h60, h⟩ := obind h
      refine Wc.r2 [{}, {}, { r := some (.v (.tup [.agg (GOp.q uk.1), .bool uk.2]) []) }] ⟨[tP 0 1000000, tI 1 v4, tP 4 4, tP 6 6, tP 7 7, tB 8 uk.2], [(4, .cells GTerm.z [(3, .app 41)]), bC 6 (GSign.q ug.2), bC 7 (GOp.q uk.1), bC 1000000 (GParser.q ug.1)], []⟩ (.cons (cimpl_PrefixOf h60) .nil) ?_
      apply Wc.seq
      obtain ⟨v2, h61, h⟩ := obind h
      refine Wc.r2 [{}, {}, { r := some (.v (.tup [.agg (GOp.q v2.1), .bool v2.2]) []) }] ⟨[tP 0 1000000, tI 1 v4, tP 4 4, tP 6 6, tP 7 7, tB 8 uk.2, tB 10 v2.2], [(4, .cells GTerm.z [(3, .app 41)]), bC 6 (GSign.q ug.2), bC 7 (GOp.q uk.1), bC 1000000 (GParser.q ug.1)], []⟩ (.cons (cimpl_InfixOf h61) .nil) ?_
      apply Wc.seq
      obtain ⟨v9, h62, h⟩ := obind h
      refine Wc.r2 [{}, { r := some (.v (.agg (GSign.q v9.2)) []), outs := [(0, .p (GParser.q v9.1) [])] }] ⟨[tP 0 1000000, tI 1 v4, tP 4 4, tP 6 6, tP 7 7, tB 8 uk.2, tB 10 v2.2, tP 11 11], [(4, .cells GTerm.z [(3, .app 41)]), bC 6 (GSign.q ug.2), bC 7 (GOp.q uk.1), bC 11 (GSign.q v9.2), bC 1000000 (GParser.q v9.1)], []⟩ (.cons (cimpl_parser_sign h62) .nil) ?_
      apply Wc.seq
      refine Wc.block ?_
      refine Wc.seqJ (fun st => ∃ (u1f : Bool), st = ⟨[tP 0 1000000, tI 1 v4, tP 4 4, tP 6 6, tP 7 7, tB 8 uk.2, tB 10 v2.2, tP 11 11, tB 30 u1f], [(4, .cells GTerm.z [(3, .app 41)]), bC 6 (GSign.q ug.2), bC 7 (GOp.q uk.1), bC 11 (GSign.q v9.2), bC 1000000 (GParser.q v9.1)], []⟩ ∧ pimpl_parser_primary_J1 k (pimpl_parser_primary k) (pimpl_parser_term k) (pimpl_parser_terms k) v9 ug uk v2 v4 u1f = some r) ?_ ?_
      · rcases oif h with ⟨h91, h⟩ | ⟨h91, h⟩
        · refine Wc.r2 [{}, {}, {}, { re := some (.bool true) }] ⟨[tP 0 1000000, tI 1 v4, tP 4 4, tP 6 6, tP 7 7, tB 8 uk.2, tB 10 v2.2, tP 11 11, tB 30 ug.2.gNear], [(4, .cells GTerm.z [(3, .app 41)]), bC 6 (GSign.q ug.2), bC 7 (GOp.q uk.1), bC 11 (GSign.q v9.2), bC 1000000 (GParser.q v9.1)], []⟩ (.cons (congrArg AV.bool h91) .nil) ?_
          exact ⟨_, rfl, h⟩
        · refine Wc.r2 [{}, {}, {}, { re := some (.bool false) }] ⟨[tP 0 1000000, tI 1 v4, tP 4 4, tP 6 6, tP 7 7, tB 8 uk.2, tB 10 v2.2, tP 11 11, tB 30 false], [(4, .cells GTerm.z [(3, .app 41)]), bC 6 (GSign.q ug.2), bC 7 (GOp.q uk.1), bC 11 (GSign.q v9.2), bC 1000000 (GParser.q v9.1)], []⟩ (.cons (congrArg AV.bool h91) .nil) ?_
          exact ⟨_, rfl, h⟩
      · rintro st ⟨u1f, rfl, h⟩
        rcases oif h with ⟨h63, h⟩ | ⟨h63, h⟩
        · refine Wc.cT h63 ?_
          apply Wc.seq
          refine Wc.r0 ⟨[tP 0 1000000, tP 4 4, tP 6 6], [(4, .cells GTerm.z [(3, .app 41)]), bC 6 (GSign.q ug.2), bC 1000000 [.sl (List.map GSign.c v9.1.gList), aI (wr.i64 (v9.1.gAt + 1)), .sl (List.map cS v9.1.gNames), aI v9.1.gDeep, .bool v9.1.gBad]], []⟩ ?_
          apply Wc.seq
          obtain ⟨u4d, h64, h⟩ := obind h
          refine Wc.r2 [{}, { r := some (.v (.tup []) []), outs := [(0, .p (GParser.q u4d) [])] }] ⟨[tP 0 1000000, tP 4 4, tP 6 6], [(4, .cells GTerm.z [(3, .app 41)]), bC 6 (GSign.q ug.2), bC 1000000 (GParser.q u4d)], []⟩ (.cons (cimpl_parser_mark h64) .nil) ?_
          apply Wc.seq
          obtain ⟨u0u, h65, h⟩ := obind h
          refine Wc.r2 [{}, { r := some (.v (.sl (List.map GTerm.c u0u.2)) [(0, .app 41)]), outs := [(0, .p (GParser.q u0u.1) [])] }, { tk := [48] }] ⟨[tP 0 1000000, tP 4 4, tP 6 6, (12, (.v (.sl (List.map GTerm.c u0u.2)), [(0, .app 41)]))], [(4, .cells GTerm.z [(3, .app 41)]), bC 6 (GSign.q ug.2), bC 1000000 (GParser.q u0u.1)], []⟩ (.cons (ih_pimpl_parser_terms h65) .nil) ?_
          apply Wc.seq
          obtain ⟨u2q, h66, h⟩ := obind h
          refine Wc.r2 [{}, { r := some (.v (.tup []) []), outs := [(0, .p (GParser.q u2q) [])] }] ⟨[tP 4 4, tP 6 6, (12, (.v (.sl (List.map GTerm.c u0u.2)), [(0, .app 41)]))], [(4, .cells GTerm.z [(3, .app 41)]), bC 6 (GSign.q ug.2), bC 1000000 (GParser.q u2q)], []⟩ (.cons (cimpl_parser_mark h66) .nil) ?_
          apply Wc.seq
          apply Wc.seq
          refine Wc.r2 [{}, { v := some (aI (u0u.2.length : Int)) }] ⟨[tP 4 4, tP 6 6, (12, (.v (.sl (List.map GTerm.c u0u.2)), [(0, .app 41)])), tB 53 (decide ((u0u.2.length : Int) > 5))], [(4, .cells GTerm.z [(3, .app 41)]), bC 6 (GSign.q ug.2), bC 1000000 (GParser.q u2q)], []⟩ (.cons (len_obl GTerm.c u0u.2) .nil) ?_
          rcases oif h with ⟨h67, h⟩ | ⟨h67, h⟩
          · refine Wc.cT h67 ?_
            exact (onone h).elim
          · refine Wc.cF h67 ?_
            refine Wc.fx [] ⟨[tP 4 4, tP 6 6, (12, (.v (.sl (List.map GTerm.c u0u.2)), [(0, .app 41)]))], [(4, .cells GTerm.z [(3, .app 41)]), bC 6 (GSign.q ug.2), bC 1000000 (GParser.q u2q)], []⟩ ?_
            refine Wc.skip ?_
            apply Wc.seq
            obtain ⟨u4e, h68, h⟩ := obind h
            refine Wc.r2 [{}, {}, { tk := [12] }, { r := some (.v (.agg (GTerm.q u4e)) []) }] ⟨[tP 4 4, tI 5 0], [bC 4 (GTerm.q u4e), bC 1000000 (GParser.q u2q)], []⟩ (.cons (cimpl_structure h68) .nil) ?_
            obtain rfl := Option.some.inj h; exact Wc.ret dn
        · refine Wc.cF h63 ?_
          refine Wc.seqJ (fun st => ∃ (u3n : Bool) (u3o : GParser), st = ⟨[tP 0 1000000, tI 1 v4, tP 4 4, tP 6 6, tP 7 7, tB 8 uk.2, tB 10 v2.2, tP 11 11, tB 61 u3n], [(4, .cells GTerm.z [(3, .app 41)]), bC 6 (GSign.q ug.2), bC 7 (GOp.q uk.1), bC 11 (GSign.q v9.2), bC 1000000 (GParser.q u3o)], []⟩ ∧ pimpl_parser_primary_J2 k (pimpl_parser_primary k) (pimpl_parser_term k) (pimpl_parser_terms k) ug v9 uk v2 v4 u3n u3o = some r) ?_ ?_
          · obtain ⟨u12, h87, h⟩ := obind h
            rcases oif h with ⟨h88, h⟩ | ⟨h88, h⟩
            · rcases oif h with ⟨h89, h⟩ | ⟨h89, h⟩
              · obtain ⟨u2r, h90, h⟩ := obind h
                refine Wc.r2 [{}, { r := some (.v (.bool u12.2) []), outs := [(0, .p (GParser.q u12.1) [])] }, { re := some (.bool true) }, {}, {}, {}, {}, { re := some (.bool true) }, {}, { r := some (.v (.bool u2r.2) []), outs := [(0, .p (GParser.q u2r.1) [])] }] ⟨[tP 0 1000000, tI 1 v4, tP 4 4, tP 6 6, tP 7 7, tB 8 uk.2, tB 10 v2.2, tP 11 11, tB 61 u2r.2], [(4, .cells GTerm.z [(3, .app 41)]), bC 6 (GSign.q ug.2), bC 7 (GOp.q uk.1), bC 11 (GSign.q v9.2), bC 1000000 (GParser.q u2r.1)], []⟩ (.cons (cimpl_parser_isMark h87) (.cons (congrArg AV.bool h88) (.cons (congrArg AV.bool h89) (.cons (cimpl_parser_isMark h90) .nil)))) ?_
                exact ⟨_, _, rfl, h⟩
              · refine Wc.r2 [{}, { r := some (.v (.bool u12.2) []), outs := [(0, .p (GParser.q u12.1) [])] }, { re := some (.bool true) }, {}, {}, {}, {}, { re := some (.bool false) }] ⟨[tP 0 1000000, tI 1 v4, tP 4 4, tP 6 6, tP 7 7, tB 8 uk.2, tB 10 v2.2, tP 11 11, tB 61 false], [(4, .cells GTerm.z [(3, .app 41)]), bC 6 (GSign.q ug.2), bC 7 (GOp.q uk.1), bC 11 (GSign.q v9.2), bC 1000000 (GParser.q u12.1)], []⟩ (.cons (cimpl_parser_isMark h87) (.cons (congrArg AV.bool h88) (.cons (congrArg AV.bool h89) .nil))) ?_
                exact ⟨_, _, rfl, h⟩
            · refine Wc.r2 [{}, { r := some (.v (.bool u12.2) []), outs := [(0, .p (GParser.q u12.1) [])] }, { re := some (.bool false) }] ⟨[tP 0 1000000, tI 1 v4, tP 4 4, tP 6 6, tP 7 7, tB 8 uk.2, tB 10 v2.2, tP 11 11, tB 61 false], [(4, .cells GTerm.z [(3, .app 41)]), bC 6 (GSign.q ug.2), bC 7 (GOp.q uk.1), bC 11 (GSign.q v9.2), bC 1000000 (GParser.q u12.1)], []⟩ (.cons (cimpl_parser_isMark h87) (.cons (congrArg AV.bool h88) .nil)) ?_
              exact ⟨_, _, rfl, h⟩
          · rintro st ⟨u3n, u3o, rfl, h⟩
            rcases oif h with ⟨h69, h⟩ | ⟨h69, h⟩
            · refine Wc.cT h69 ?_
              exact (onone h).elim
            · refine Wc.cF h69 ?_
              apply Wc.seq
              obtain ⟨u2p, h70, h⟩ := obind h
              refine Wc.r2 [{}, { r := some (.v (.bool u2p.2) []), outs := [(0, .p (GParser.q u2p.1) [])] }] ⟨[tP 0 1000000, tI 1 v4, tP 4 4, tP 6 6, tP 7 7, tB 8 uk.2, tB 10 v2.2, tP 11 11, tB 83 u2p.2], [(4, .cells GTerm.z [(3, .app 41)]), bC 6 (GSign.q ug.2), bC 7 (GOp.q uk.1), bC 11 (GSign.q v9.2), bC 1000000 (GParser.q u2p.1)], []⟩ (.cons (cimpl_parser_isMark h70) .nil) ?_
              rcases oif h with ⟨h71, h⟩ | ⟨h71, h⟩
              · refine Wc.cT h71 ?_
                exact (onone h).elim
              · refine Wc.cF h71 ?_
                apply Wc.seq
                obtain ⟨u7, h72, h⟩ := obind h
                refine Wc.r2 [{}, { r := some (.v (.bool u7.2) []), outs := [(0, .p (GParser.q u7.1) [])] }] ⟨[tP 0 1000000, tI 1 v4, tP 4 4, tP 6 6, tP 7 7, tB 8 uk.2, tB 10 v2.2, tP 11 11, tB 98 u7.2], [(4, .cells GTerm.z [(3, .app 41)]), bC 6 (GSign.q ug.2), bC 7 (GOp.q uk.1), bC 11 (GSign.q v9.2), bC 1000000 (GParser.q u7.1)], []⟩ (.cons (cimpl_parser_isMark h72) .nil) ?_
                rcases oif h with ⟨h73, h⟩ | ⟨h73, h⟩
                · refine Wc.cT h73 ?_
                  exact (onone h).elim
                · refine Wc.cF h73 ?_
                  apply Wc.seq
                  refine Wc.r0 ⟨[tP 0 1000000, tI 1 v4, tP 4 4, tP 6 6, tP 7 7, tB 8 uk.2, tB 10 v2.2, tP 11 11, tB 103 (ug.2.gKind == 3)], [(4, .cells GTerm.z [(3, .app 41)]), bC 6 (GSign.q ug.2), bC 7 (GOp.q uk.1), bC 11 (GSign.q v9.2), bC 1000000 (GParser.q u7.1)], []⟩ ?_
                  rcases oif h with ⟨h74, h⟩ | ⟨h74, h⟩
                  · refine Wc.cT h74 ?_
                    apply Wc.seq
                    refine Wc.r0 ⟨[tP 4 4, tP 6 6], [(4, .cells GTerm.z [(3, .app 41)]), bC 6 (GSign.q ug.2), bC 1000000 [.sl (List.map GSign.c u7.1.gList), aI (wr.i64 (u7.1.gAt + 1)), .sl (List.map cS u7.1.gNames), aI u7.1.gDeep, .bool u7.1.gBad]], []⟩ ?_
                    apply Wc.seq
                    obtain ⟨u3p, h75, h⟩ := obind h
                    refine Wc.r2 [{}, {}, { r := some (.v (.agg (GTerm.q u3p)) [(3, .app 41)]) }, { tk := [116] }] ⟨[tP 4 4, tI 5 0], [(4, .cells (GTerm.q u3p) [(3, .app 41)]), bC 1000000 [.sl (List.map GSign.c u7.1.gList), aI (wr.i64 (u7.1.gAt + 1)), .sl (List.map cS u7.1.gNames), aI u7.1.gDeep, .bool u7.1.gBad]], []⟩ (.cons (cimpl_number h75) .nil) ?_
                    refine Wc.fx [.un (.b 4 3)] ⟨[tP 4 4, tI 5 0], [bC 4 (GTerm.q u3p), bC 1000000 [.sl (List.map GSign.c u7.1.gList), aI (wr.i64 (u7.1.gAt + 1)), .sl (List.map cS u7.1.gNames), aI u7.1.gDeep, .bool u7.1.gBad]], []⟩ ?_
                    obtain rfl := Option.some.inj h; exact Wc.ret dn
                  · refine Wc.cF h74 ?_
                    apply Wc.seq
                    refine Wc.r0 ⟨[tP 0 1000000, tI 1 v4, tP 4 4, tP 6 6, tP 7 7, tB 8 uk.2, tB 10 v2.2, tP 11 11, tB 117 (ug.2.gKind == 2)], [(4, .cells GTerm.z [(3, .app 41)]), bC 6 (GSign.q ug.2), bC 7 (GOp.q uk.1), bC 11 (GSign.q v9.2), bC 1000000 (GParser.q u7.1)], []⟩ ?_
                    rcases oif h with ⟨h76, h⟩ | ⟨h76, h⟩
                    · refine Wc.cT h76 ?_
                      exact (onone h).elim
                    · refine Wc.cF h76 ?_
                      refine Wc.seqJ (fun st => ∃ (u3m : Bool), st = ⟨[tP 0 1000000, tI 1 v4, tP 4 4, tP 6 6, tP 7 7, tB 8 uk.2, tB 10 v2.2, tB 132 u3m], [(4, .cells GTerm.z [(3, .app 41)]), bC 6 (GSign.q ug.2), bC 7 (GOp.q uk.1), bC 1000000 (GParser.q u7.1)], []⟩ ∧ pimpl_parser_primary_J3 k (pimpl_parser_primary k) (pimpl_parser_term k) (pimpl_parser_terms k) ug uk v2 u7 v4 u3m = some r) ?_ ?_
                      · rcases oif h with ⟨h84, h⟩ | ⟨h84, h⟩
                        · rcases oif h with ⟨h85, h⟩ | ⟨h85, h⟩
                          · rcases oif h with ⟨h86, h⟩ | ⟨h86, h⟩
                            · refine Wc.r2 [{}, {}, {}, { re := some (.bool true) }, {}, {}, {}, {}, { re := some (.bool true) }, {}, {}, {}, {}, { re := some (.bool true) }] ⟨[tP 0 1000000, tI 1 v4, tP 4 4, tP 6 6, tP 7 7, tB 8 uk.2, tB 10 v2.2, tB 132 (v9.2.gAt == (wr.i64 (ug.2.gAt + 1)))], [(4, .cells GTerm.z [(3, .app 41)]), bC 6 (GSign.q ug.2), bC 7 (GOp.q uk.1), bC 1000000 (GParser.q u7.1)], []⟩ (.cons (congrArg AV.bool h84) (.cons (congrArg AV.bool h85) (.cons (congrArg AV.bool h86) .nil))) ?_
                              exact ⟨_, rfl, h⟩
                            · refine Wc.r2 [{}, {}, {}, { re := some (.bool true) }, {}, {}, {}, {}, { re := some (.bool true) }, {}, {}, {}, {}, { re := some (.bool false) }] ⟨[tP 0 1000000, tI 1 v4, tP 4 4, tP 6 6, tP 7 7, tB 8 uk.2, tB 10 v2.2, tB 132 false], [(4, .cells GTerm.z [(3, .app 41)]), bC 6 (GSign.q ug.2), bC 7 (GOp.q uk.1), bC 1000000 (GParser.q u7.1)], []⟩ (.cons (congrArg AV.bool h84) (.cons (congrArg AV.bool h85) (.cons (congrArg AV.bool h86) .nil))) ?_
                              exact ⟨_, rfl, h⟩
                          · refine Wc.r2 [{}, {}, {}, { re := some (.bool true) }, {}, {}, {}, {}, { re := some (.bool false) }] ⟨[tP 0 1000000, tI 1 v4, tP 4 4, tP 6 6, tP 7 7, tB 8 uk.2, tB 10 v2.2, tB 132 false], [(4, .cells GTerm.z [(3, .app 41)]), bC 6 (GSign.q ug.2), bC 7 (GOp.q uk.1), bC 1000000 (GParser.q u7.1)], []⟩ (.cons (congrArg AV.bool h84) (.cons (congrArg AV.bool h85) .nil)) ?_
                            exact ⟨_, rfl, h⟩
                        · refine Wc.r2 [{}, {}, {}, { re := some (.bool false) }] ⟨[tP 0 1000000, tI 1 v4, tP 4 4, tP 6 6, tP 7 7, tB 8 uk.2, tB 10 v2.2, tB 132 false], [(4, .cells GTerm.z [(3, .app 41)]), bC 6 (GSign.q ug.2), bC 7 (GOp.q uk.1), bC 1000000 (GParser.q u7.1)], []⟩ (.cons (congrArg AV.bool h84) .nil) ?_
                          exact ⟨_, rfl, h⟩
                      · rintro st ⟨u3m, rfl, h⟩
                        rcases oif h with ⟨h77, h⟩ | ⟨h77, h⟩
                        · refine Wc.cT h77 ?_
                          exact (onone h).elim
                        · refine Wc.cF h77 ?_
                          refine Wc.seqJ (fun st => ∃ (u3l : Bool), st = ⟨[tP 0 1000000, tP 4 4, tP 6 6, tB 8 uk.2, tB 10 v2.2, tB 165 u3l], [(4, .cells GTerm.z [(3, .app 41)]), bC 6 (GSign.q ug.2), bC 1000000 (GParser.q u7.1)], []⟩ ∧ pimpl_parser_primary_J4 k (pimpl_parser_primary k) (pimpl_parser_term k) (pimpl_parser_terms k) ug uk v2 u7 u3l = some r) ?_ ?_
                          · rcases oif h with ⟨h82, h⟩ | ⟨h82, h⟩
                            · rcases oif h with ⟨h83, h⟩ | ⟨h83, h⟩
                              · refine Wc.r2 [{}, {}, {}, { re := some (.bool true) }, {}, {}, { re := some (.bool true) }] ⟨[tP 0 1000000, tP 4 4, tP 6 6, tB 8 uk.2, tB 10 v2.2, tB 165 (decide (uk.1.gPrio ≤ v4))], [(4, .cells GTerm.z [(3, .app 41)]), bC 6 (GSign.q ug.2), bC 1000000 (GParser.q u7.1)], []⟩ (.cons (congrArg AV.bool h82) (.cons (congrArg AV.bool h83) .nil)) ?_
                                exact ⟨_, rfl, h⟩
                              · refine Wc.r2 [{}, {}, {}, { re := some (.bool true) }, {}, {}, { re := some (.bool false) }] ⟨[tP 0 1000000, tP 4 4, tP 6 6, tB 8 uk.2, tB 10 v2.2, tB 165 false], [(4, .cells GTerm.z [(3, .app 41)]), bC 6 (GSign.q ug.2), bC 1000000 (GParser.q u7.1)], []⟩ (.cons (congrArg AV.bool h82) (.cons (congrArg AV.bool h83) .nil)) ?_
                                exact ⟨_, rfl, h⟩
                            · refine Wc.r2 [{}, {}, {}, { re := some (.bool false) }] ⟨[tP 0 1000000, tP 4 4, tP 6 6, tB 8 uk.2, tB 10 v2.2, tB 165 false], [(4, .cells GTerm.z [(3, .app 41)]), bC 6 (GSign.q ug.2), bC 1000000 (GParser.q u7.1)], []⟩ (.cons (congrArg AV.bool h82) .nil) ?_
                              exact ⟨_, rfl, h⟩
                          · rintro st ⟨u3l, rfl, h⟩
                            rcases oif h with ⟨h78, h⟩ | ⟨h78, h⟩
                            · refine Wc.cT h78 ?_
                              exact (onone h).elim
                            · refine Wc.cF h78 ?_
                              apply Wc.seq
                              rcases oif h with ⟨h79, h⟩ | ⟨h79, h⟩
                              · rcases oif h with ⟨h80, h⟩ | ⟨h80, h⟩
                                · refine Wc.r2 [{}, {}, {}, { re := some (.bool true) }, {}, {}, {}, { re := some (.bool true) }] ⟨[tP 0 1000000, tP 4 4, tB 195 (!v2.2)], [(4, .cells GTerm.z [(3, .app 41)]), bC 1000000 (GParser.q u7.1)], []⟩ (.cons (congrArg AV.bool h79) (.cons (congrArg AV.bool h80) .nil)) ?_
                                  rcases oif h with ⟨h81, h⟩ | ⟨h81, h⟩
                                  · refine Wc.cT h81 ?_
                                    exact (onone h).elim
                                  · refine Wc.cF h81 ?_
                                    refine Wc.fx [] ⟨[tP 0 1000000, tP 4 4], [(4, .cells GTerm.z [(3, .app 41)]), bC 1000000 (GParser.q u7.1)], []⟩ ?_
                                    refine Wc.skip ?_
                                    apply Wc.seq
                                    refine Wc.r0 ⟨[tP 4 4], [(4, .cells GTerm.z [(3, .app 41)]), bC 1000000 [.sl (List.map GSign.c u7.1.gList), aI u7.1.gAt, .sl (List.map cS u7.1.gNames), aI u7.1.gDeep, .bool true]], []⟩ ?_
                                    apply Wc.seq
                                    refine Wc.r1 [{}, { tk := [220] }] ⟨[tP 4 4, tI 5 0], [(4, .cells GTerm.z [(3, .app 41)]), bC 1000000 [.sl (List.map GSign.c u7.1.gList), aI u7.1.gAt, .sl (List.map cS u7.1.gNames), aI u7.1.gDeep, .bool true]], []⟩ ?_
                                    refine Wc.fx [.un (.b 4 3)] ⟨[tP 4 4, tI 5 0], [bC 4 GTerm.z, bC 1000000 [.sl (List.map GSign.c u7.1.gList), aI u7.1.gAt, .sl (List.map cS u7.1.gNames), aI u7.1.gDeep, .bool true]], []⟩ ?_
                                    obtain rfl := Option.some.inj h; exact Wc.ret dn
                                · refine Wc.r2 [{}, {}, {}, { re := some (.bool true) }, {}, {}, {}, { re := some (.bool false) }] ⟨[tP 0 1000000, tP 4 4, tB 195 false], [(4, .cells GTerm.z [(3, .app 41)]), bC 1000000 (GParser.q u7.1)], []⟩ (.cons (congrArg AV.bool h79) (.cons (congrArg AV.bool h80) .nil)) ?_
                                  refine Wc.cF rfl ?_
                                  refine Wc.fx [] ⟨[tP 0 1000000, tP 4 4], [(4, .cells GTerm.z [(3, .app 41)]), bC 1000000 (GParser.q u7.1)], []⟩ ?_
                                  refine Wc.skip ?_
                                  apply Wc.seq
                                  refine Wc.r0 ⟨[tP 4 4], [(4, .cells GTerm.z [(3, .app 41)]), bC 1000000 [.sl (List.map GSign.c u7.1.gList), aI u7.1.gAt, .sl (List.map cS u7.1.gNames), aI u7.1.gDeep, .bool true]], []⟩ ?_
                                  apply Wc.seq
                                  refine Wc.r1 [{}, { tk := [220] }] ⟨[tP 4 4, tI 5 0], [(4, .cells GTerm.z [(3, .app 41)]), bC 1000000 [.sl (List.map GSign.c u7.1.gList), aI u7.1.gAt, .sl (List.map cS u7.1.gNames), aI u7.1.gDeep, .bool true]], []⟩ ?_
                                  refine Wc.fx [.un (.b 4 3)] ⟨[tP 4 4, tI 5 0], [bC 4 GTerm.z, bC 1000000 [.sl (List.map GSign.c u7.1.gList), aI u7.1.gAt, .sl (List.map cS u7.1.gNames), aI u7.1.gDeep, .bool true]], []⟩ ?_
                                  obtain rfl := Option.some.inj h; exact Wc.ret dn
                              · refine Wc.r2 [{}, {}, {}, { re := some (.bool false) }] ⟨[tP 0 1000000, tP 4 4, tB 195 false], [(4, .cells GTerm.z [(3, .app 41)]), bC 1000000 (GParser.q u7.1)], []⟩ (.cons (congrArg AV.bool h79) .nil) ?_
                                refine Wc.cF rfl ?_
                                refine Wc.fx [] ⟨[tP 0 1000000, tP 4 4], [(4, .cells GTerm.z [(3, .app 41)]), bC 1000000 (GParser.q u7.1)], []⟩ ?_
                                refine Wc.skip ?_
                                apply Wc.seq
                                refine Wc.r0 ⟨[tP 4 4], [(4, .cells GTerm.z [(3, .app 41)]), bC 1000000 [.sl (List.map GSign.c u7.1.gList), aI u7.1.gAt, .sl (List.map cS u7.1.gNames), aI u7.1.gDeep, .bool true]], []⟩ ?_
                                apply Wc.seq
                                refine Wc.r1 [{}, { tk := [220] }] ⟨[tP 4 4, tI 5 0], [(4, .cells GTerm.z [(3, .app 41)]), bC 1000000 [.sl (List.map GSign.c u7.1.gList), aI u7.1.gAt, .sl (List.map cS u7.1.gNames), aI u7.1.gDeep, .bool true]], []⟩ ?_
                                refine Wc.fx [.un (.b 4 3)] ⟨[tP 4 4, tI 5 0], [bC 4 GTerm.z, bC 1000000 [.sl (List.map GSign.c u7.1.gList), aI u7.1.gAt, .sl (List.map cS u7.1.gNames), aI u7.1.gDeep, .bool true]], []⟩ ?_
                                obtain rfl := Option.some.inj h; exact Wc.ret dn
    · intro zk vg r h
      rw [pimpl_parser_term] at h
      refine FnO.o2 Tryz.func53 (rfl : Tryz.f53.body = some _) ?_
      intro w0 X0 Fin pv0 pb gt
      apply Wc.seq
      refine Wc.r0 ⟨[tP 0 1000000, tI 1 vg, tP 4 4], [(4, .cells GTerm.z [(3, .app 41)]), bC 1000000 (GParser.q zk)], []⟩ ?_
      apply Wc.seq
      apply Wc.seq
      rcases oif h with ⟨h92, h⟩ | ⟨h92, h⟩
      · refine Wc.r2 [{}, {}, {}, {}, {}, { re := some (.bool true) }] ⟨[tP 0 1000000, tI 1 vg, tP 4 4, tB 20 true], [(4, .cells GTerm.z [(3, .app 41)]), bC 1000000 (GParser.q zk)], []⟩ (.cons (congrArg AV.bool h92) .nil) ?_
        refine Wc.cT rfl ?_
        exact (onone h).elim
      · refine Wc.r2 [{}, {}, {}, {}, {}, { re := some (.bool false) }] ⟨[tP 0 1000000, tI 1 vg, tP 4 4, tB 20 zk.gBad], [(4, .cells GTerm.z [(3, .app 41)]), bC 1000000 (GParser.q zk)], []⟩ (.cons (congrArg AV.bool h92) .nil) ?_
        rcases oif h with ⟨h93, h⟩ | ⟨h93, h⟩
        · refine Wc.cT h93 ?_
          exact (onone h).elim
        · refine Wc.cF h93 ?_
          refine Wc.fx [] ⟨[tP 0 1000000, tI 1 vg, tP 4 4], [(4, .cells GTerm.z [(3, .app 41)]), bC 1000000 (GParser.q zk)], []⟩ ?_
          refine Wc.skip ?_
          apply Wc.seq
          refine Wc.r0 ⟨[tP 0 1000000, tI 1 vg, tP 4 4], [(4, .cells GTerm.z [(3, .app 41)]), bC 1000000 [.sl (List.map GSign.c zk.gList), aI zk.gAt, .sl (List.map cS zk.gNames), aI (wr.i64 (zk.gDeep + 1)), .bool zk.gBad]], []⟩ ?_
          apply Wc.seq
          obtain ⟨u1s, h94, h⟩ := obind h
          refine Wc.r2 [{}, {}, { r := some (.v (.tup [.agg (GTerm.q u1s.2.1), aI u1s.2.2]) []), outs := [(0, .p (GParser.q u1s.1) [])] }] ⟨[tP 0 1000000, tI 1 vg, tP 4 4, tP 5 5, tI 6 u1s.2.2], [(4, .cells GTerm.z [(3, .app 41)]), bC 5 (GTerm.q u1s.2.1), bC 1000000 (GParser.q u1s.1)], []⟩ (.cons (ih_pimpl_parser_primary h94) .nil) ?_
          obtain ⟨out1, h95, h⟩ := obind h
          refine Wc.seqJ (fun st => ∃ (u2s : GTerm) (u05 : GParser), out1 = .done (u2s, u05) ∧ st = ⟨[tP 0 1000000, tP 4 4, tP 5 5], [(4, .cells GTerm.z [(3, .app 41)]), bC 5 (GTerm.q u2s), bC 1000000 (GParser.q u05)], []⟩) ?_ ?_
          · refine Wc.block ?_
            refine Wc.loop (fun m st => ∃ (u1a : Int) (va : GTerm) (u1j : GParser), st = ⟨[tP 0 1000000, tI 1 vg, tP 4 4, tP 5 5, tI 6 u1a], [(4, .cells GTerm.z [(3, .app 41)]), bC 5 (GTerm.q va), bC 1000000 (GParser.q u1j)], []⟩ ∧ pimpl_parser_term_L1 k (pimpl_parser_primary k) (pimpl_parser_term k) (pimpl_parser_terms k) vg m u1a va u1j = some out1) ?_ k ⟨_, _, _, rfl, h95⟩
            rintro m st ⟨u1a, va, u1j, rfl, h95⟩
            cases m with
            | zero => exact (onone h95).elim
            | succ m =>
              apply Wc.seq
              apply Wc.seq
              refine Wc.r0 ⟨[tP 0 1000000, tI 1 vg, tP 4 4, tP 5 5, tI 6 u1a, tB 42 (!u1j.gBad)], [(4, .cells GTerm.z [(3, .app 41)]), bC 5 (GTerm.q va), bC 1000000 (GParser.q u1j)], []⟩ ?_
              rcases oif h95 with ⟨h96, h95⟩ | ⟨h96, h95⟩
              · refine Wc.cT h96 ?_
                refine Wc.fx [] ⟨[tP 0 1000000, tI 1 vg, tP 4 4, tP 5 5, tI 6 u1a], [(4, .cells GTerm.z [(3, .app 41)]), bC 5 (GTerm.q va), bC 1000000 (GParser.q u1j)], []⟩ ?_
                refine Wc.skip ?_
                refine Wc.block ?_
                apply Wc.seq
                obtain ⟨uz, h97, h95⟩ := obind h95
                refine Wc.r2 [{}, { r := some (.v (.agg (GSign.q uz.2)) []), outs := [(0, .p (GParser.q uz.1) [])] }] ⟨[tP 0 1000000, tI 1 vg, tP 4 4, tP 5 5, tI 6 u1a, tP 7 7], [(4, .cells GTerm.z [(3, .app 41)]), bC 5 (GTerm.q va), bC 7 (GSign.q uz.2), bC 1000000 (GParser.q uz.1)], []⟩ (.cons (cimpl_parser_sign h97) .nil) ?_
                apply Wc.seq
                obtain ⟨vv, h98, h95⟩ := obind h95
                refine Wc.r2 [{}, {}, { r := some (.v (.tup [.agg (GOp.q vv.1), .bool vv.2]) []) }] ⟨[tP 0 1000000, tI 1 vg, tP 4 4, tP 5 5, tI 6 u1a, tP 7 7, tP 8 8, tB 9 vv.2], [(4, .cells GTerm.z [(3, .app 41)]), bC 5 (GTerm.q va), bC 7 (GSign.q uz.2), bC 8 (GOp.q vv.1), bC 1000000 (GParser.q uz.1)], []⟩ (.cons (cimpl_InfixOf h98) .nil) ?_
                refine Wc.seqJ (fun st => st = ⟨[tP 0 1000000, tI 1 vg, tP 4 4, tP 5 5, tP 8 8], [(4, .cells GTerm.z [(3, .app 41)]), bC 5 (GTerm.q va), bC 8 (GOp.q vv.1), bC 1000000 (GParser.q uz.1)], []⟩ ∧ pimpl_parser_term_J2 k (pimpl_parser_primary k) (pimpl_parser_term k) (pimpl_parser_terms k) (pimpl_parser_term_L1 k (pimpl_parser_primary k) (pimpl_parser_term k) (pimpl_parser_terms k) vg m) uz vv va = some out1) ?_ ?_
                · apply Wc.seq
                  rcases oif h95 with ⟨h101, h95⟩ | ⟨h101, h95⟩
                  · refine Wc.r2 [{}, {}, { re := some (.bool true) }] ⟨[tP 0 1000000, tI 1 vg, tP 4 4, tP 5 5, tP 8 8, tB 78 true], [(4, .cells GTerm.z [(3, .app 41)]), bC 5 (GTerm.q va), bC 8 (GOp.q vv.1), bC 1000000 (GParser.q uz.1)], []⟩ (.cons (congrArg AV.bool h101) .nil) ?_
                    refine Wc.cT rfl ?_
                    refine Wc.fx [] ⟨[tP 0 1000000, tP 4 4, tP 5 5], [(4, .cells GTerm.z [(3, .app 41)]), bC 5 (GTerm.q va), bC 1000000 (GParser.q uz.1)], []⟩ ?_
                    refine Wc.exit ?_
                    obtain rfl := Option.some.inj h95
                    exact ⟨_, _, rfl, rfl⟩
                  · rcases oif h95 with ⟨h102, h95⟩ | ⟨h102, h95⟩
                    · rcases oif h95 with ⟨h103, h95⟩ | ⟨h103, h95⟩
                      · refine Wc.r2 [{}, {}, { re := some (.bool false) }, {}, {}, {}, { re := some (.bool true) }, {}, {}, {}, { re := some (.bool true) }] ⟨[tP 0 1000000, tI 1 vg, tP 4 4, tP 5 5, tP 8 8, tB 78 true], [(4, .cells GTerm.z [(3, .app 41)]), bC 5 (GTerm.q va), bC 8 (GOp.q vv.1), bC 1000000 (GParser.q uz.1)], []⟩ (.cons (congrArg AV.bool h101) (.cons (congrArg AV.bool h102) (.cons (congrArg AV.bool h103) .nil))) ?_
                        refine Wc.cT rfl ?_
                        refine Wc.fx [] ⟨[tP 0 1000000, tP 4 4, tP 5 5], [(4, .cells GTerm.z [(3, .app 41)]), bC 5 (GTerm.q va), bC 1000000 (GParser.q uz.1)], []⟩ ?_
                        refine Wc.exit ?_
                        obtain rfl := Option.some.inj h95
                        exact ⟨_, _, rfl, rfl⟩
                      · rcases oif h95 with ⟨h104, h95⟩ | ⟨h104, h95⟩
                        · refine Wc.r2 [{}, {}, { re := some (.bool false) }, {}, {}, {}, { re := some (.bool true) }, {}, {}, {}, { re := some (.bool false) }, {}, {}, {}, {}, {}, { re := some (.bool true) }] ⟨[tP 0 1000000, tI 1 vg, tP 4 4, tP 5 5, tP 8 8, tB 78 true], [(4, .cells GTerm.z [(3, .app 41)]), bC 5 (GTerm.q va), bC 8 (GOp.q vv.1), bC 1000000 (GParser.q uz.1)], []⟩ (.cons (congrArg AV.bool h101) (.cons (congrArg AV.bool h102) (.cons (congrArg AV.bool h103) (.cons (congrArg AV.bool h104) .nil)))) ?_
                          refine Wc.cT rfl ?_
                          refine Wc.fx [] ⟨[tP 0 1000000, tP 4 4, tP 5 5], [(4, .cells GTerm.z [(3, .app 41)]), bC 5 (GTerm.q va), bC 1000000 (GParser.q uz.1)], []⟩ ?_
                          refine Wc.exit ?_
                          obtain rfl := Option.some.inj h95
                          exact ⟨_, _, rfl, rfl⟩
                        · rcases oif h95 with ⟨h105, h95⟩ | ⟨h105, h95⟩
                          · refine Wc.r2 [{}, {}, { re := some (.bool false) }, {}, {}, {}, { re := some (.bool true) }, {}, {}, {}, { re := some (.bool false) }, {}, {}, {}, {}, {}, { re := some (.bool false) }, {}, {}, {}, {}, {}, { re := some (.bool true) }] ⟨[tP 0 1000000, tI 1 vg, tP 4 4, tP 5 5, tP 8 8, tB 78 true], [(4, .cells GTerm.z [(3, .app 41)]), bC 5 (GTerm.q va), bC 8 (GOp.q vv.1), bC 1000000 (GParser.q uz.1)], []⟩ (.cons (congrArg AV.bool h101) (.cons (congrArg AV.bool h102) (.cons (congrArg AV.bool h103) (.cons (congrArg AV.bool h104) (.cons (congrArg AV.bool h105) .nil))))) ?_
                            refine Wc.cT rfl ?_
                            refine Wc.fx [] ⟨[tP 0 1000000, tP 4 4, tP 5 5], [(4, .cells GTerm.z [(3, .app 41)]), bC 5 (GTerm.q va), bC 1000000 (GParser.q uz.1)], []⟩ ?_
                            refine Wc.exit ?_
                            obtain rfl := Option.some.inj h95
                            exact ⟨_, _, rfl, rfl⟩
                          · refine Wc.r2 [{}, {}, { re := some (.bool false) }, {}, {}, {}, { re := some (.bool true) }, {}, {}, {}, { re := some (.bool false) }, {}, {}, {}, {}, {}, { re := some (.bool false) }, {}, {}, {}, {}, {}, { re := some (.bool false) }] ⟨[tP 0 1000000, tI 1 vg, tP 4 4, tP 5 5, tP 8 8, tB 78 (decide (vv.1.gLeft < u1a))], [(4, .cells GTerm.z [(3, .app 41)]), bC 5 (GTerm.q va), bC 8 (GOp.q vv.1), bC 1000000 (GParser.q uz.1)], []⟩ (.cons (congrArg AV.bool h101) (.cons (congrArg AV.bool h102) (.cons (congrArg AV.bool h103) (.cons (congrArg AV.bool h104) (.cons (congrArg AV.bool h105) .nil))))) ?_
                            rcases oif h95 with ⟨h106, h95⟩ | ⟨h106, h95⟩
                            · refine Wc.cT h106 ?_
                              refine Wc.fx [] ⟨[tP 0 1000000, tP 4 4, tP 5 5], [(4, .cells GTerm.z [(3, .app 41)]), bC 5 (GTerm.q va), bC 1000000 (GParser.q uz.1)], []⟩ ?_
                              refine Wc.exit ?_
                              obtain rfl := Option.some.inj h95
                              exact ⟨_, _, rfl, rfl⟩
                            · refine Wc.cF h106 ?_
                              refine Wc.fx [] ⟨[tP 0 1000000, tI 1 vg, tP 4 4, tP 5 5, tP 8 8], [(4, .cells GTerm.z [(3, .app 41)]), bC 5 (GTerm.q va), bC 8 (GOp.q vv.1), bC 1000000 (GParser.q uz.1)], []⟩ ?_
                              refine Wc.skip ?_
                              exact ⟨rfl, h95⟩
                    · rcases oif h95 with ⟨h103, h95⟩ | ⟨h103, h95⟩
                      · refine Wc.r2 [{}, {}, { re := some (.bool false) }, {}, {}, {}, { re := some (.bool false) }, {}, {}, {}, {}, {}, {}, {}, {}, {}, {}, {}, {}, {}, {}, {}, { re := some (.bool true) }] ⟨[tP 0 1000000, tI 1 vg, tP 4 4, tP 5 5, tP 8 8, tB 78 true], [(4, .cells GTerm.z [(3, .app 41)]), bC 5 (GTerm.q va), bC 8 (GOp.q vv.1), bC 1000000 (GParser.q uz.1)], []⟩ (.cons (congrArg AV.bool h101) (.cons (congrArg AV.bool h102) (.cons (congrArg AV.bool h103) .nil))) ?_
                        refine Wc.cT rfl ?_
                        refine Wc.fx [] ⟨[tP 0 1000000, tP 4 4, tP 5 5], [(4, .cells GTerm.z [(3, .app 41)]), bC 5 (GTerm.q va), bC 1000000 (GParser.q uz.1)], []⟩ ?_
                        refine Wc.exit ?_
                        obtain rfl := Option.some.inj h95
                        exact ⟨_, _, rfl, rfl⟩
                      · refine Wc.r2 [{}, {}, { re := some (.bool false) }, {}, {}, {}, { re := some (.bool false) }, {}, {}, {}, {}, {}, {}, {}, {}, {}, {}, {}, {}, {}, {}, {}, { re := some (.bool false) }] ⟨[tP 0 1000000, tI 1 vg, tP 4 4, tP 5 5, tP 8 8, tB 78 (decide (vv.1.gLeft < u1a))], [(4, .cells GTerm.z [(3, .app 41)]), bC 5 (GTerm.q va), bC 8 (GOp.q vv.1), bC 1000000 (GParser.q uz.1)], []⟩ (.cons (congrArg AV.bool h101) (.cons (congrArg AV.bool h102) (.cons (congrArg AV.bool h103) .nil))) ?_
                        rcases oif h95 with ⟨h107, h95⟩ | ⟨h107, h95⟩
                        · refine Wc.cT h107 ?_
                          refine Wc.fx [] ⟨[tP 0 1000000, tP 4 4, tP 5 5], [(4, .cells GTerm.z [(3, .app 41)]), bC 5 (GTerm.q va), bC 1000000 (GParser.q uz.1)], []⟩ ?_
                          refine Wc.exit ?_
                          obtain rfl := Option.some.inj h95
                          exact ⟨_, _, rfl, rfl⟩
                        · refine Wc.cF h107 ?_
                          refine Wc.fx [] ⟨[tP 0 1000000, tI 1 vg, tP 4 4, tP 5 5, tP 8 8], [(4, .cells GTerm.z [(3, .app 41)]), bC 5 (GTerm.q va), bC 8 (GOp.q vv.1), bC 1000000 (GParser.q uz.1)], []⟩ ?_
                          refine Wc.skip ?_
                          exact ⟨rfl, h95⟩
                · rintro st ⟨rfl, h95⟩
                  apply Wc.seq
                  refine Wc.r0 ⟨[tP 0 1000000, tI 1 vg, tP 4 4, tP 5 5, tP 8 8], [(4, .cells GTerm.z [(3, .app 41)]), bC 5 (GTerm.q va), bC 8 (GOp.q vv.1), bC 1000000 [.sl (List.map GSign.c uz.1.gList), aI (wr.i64 (uz.1.gAt + 1)), .sl (List.map cS uz.1.gNames), aI uz.1.gDeep, .bool uz.1.gBad]], []⟩ ?_
                  apply Wc.seq
                  obtain ⟨u1q, h99, h95⟩ := obind h95
                  obtain ⟨u3q, h100, h95⟩ := obind h95
                  refine Wc.draw hmix [{}, {}, {}, {}, {}, {}, { r := some (.v (.agg (GTerm.q u1q.2)) []), outs := [(0, .p (GParser.q u1q.1) [])] }, { c := some (List.map GTerm.c [va, u1q.2]) }, { r := some (.v (.agg (GTerm.q u3q)) []) }] [] [0, 1, 4, 5, 8] [4, 5, 8, 1000000] [] ⟨[tP 0 1000000, tI 1 vg, tP 4 4, tP 5 5, tP 8 8], [(4, .cells GTerm.z [(3, .app 41)]), bC 5 (GTerm.q u3q), bC 8 (GOp.q vv.1), bC 1000000 (GParser.q u1q.1)], []⟩ _ (by kernel_rfl) (fun X => by kernel_rfl) (.cons (ih_pimpl_parser_term h99) (.cons (cl_cons (c := GTerm.c) (x := va) (GTerm.c_eq va) (cl_cons (c := GTerm.c) (x := u1q.2) (GTerm.c_eq u1q.2) (cl_nil GTerm.c))) (.cons (cimpl_structure h100) .nil))) ?_
                  refine Wc.r0 ⟨[tP 0 1000000, tI 1 vg, tP 4 4, tP 5 5, tI 6 vv.1.gPrio], [(4, .cells GTerm.z [(3, .app 41)]), bC 5 (GTerm.q u3q), bC 1000000 (GParser.q u1q.1)], []⟩ ?_
                  exact ⟨_, Nat.lt_succ_self _, _, _, _, rfl, h95⟩
              · refine Wc.cF h96 ?_
                refine Wc.fx [] ⟨[tP 0 1000000, tP 4 4, tP 5 5], [(4, .cells GTerm.z [(3, .app 41)]), bC 5 (GTerm.q va), bC 1000000 (GParser.q u1j)], []⟩ ?_
                refine Wc.exit ?_
                obtain rfl := Option.some.inj h95
                exact ⟨_, _, rfl, rfl⟩
          · rintro st ⟨u2s, u05, rfl, rfl⟩
            apply Wc.seq
            refine Wc.r0 ⟨[tP 4 4, tP 5 5], [(4, .cells GTerm.z [(3, .app 41)]), bC 5 (GTerm.q u2s), bC 1000000 [.sl (List.map GSign.c u05.gList), aI u05.gAt, .sl (List.map cS u05.gNames), aI (wr.i64 (u05.gDeep - 1)), .bool u05.gBad]], []⟩ ?_
            apply Wc.seq
            refine Wc.r0 ⟨[tP 4 4], [bC 4 (GTerm.q u2s), bC 1000000 [.sl (List.map GSign.c u05.gList), aI u05.gAt, .sl (List.map cS u05.gNames), aI (wr.i64 (u05.gDeep - 1)), .bool u05.gBad]], []⟩ ?_
            obtain rfl := Option.some.inj h; exact Wc.ret dn
    · intro u1t r h
      rw [pimpl_parser_terms] at h
      refine FnO.o2 Tryz.func107 (rfl : Tryz.f107.body = some _) ?_
      intro w0 X0 Fin pv0 pb gt
      apply Wc.seq
      refine Wc.r0 ⟨[tP 0 1000000], [bC 1000000 (GParser.q u1t)], []⟩ ?_
      apply Wc.seq
      obtain ⟨u1u, h108, h⟩ := obind h
      refine Wc.r2 [{}, { r := some (.v (.agg (GTerm.q u1u.2)) []), outs := [(0, .p (GParser.q u1u.1) [])] }, { c := some (List.map GTerm.c [u1u.2]) }, { tk := [6] }] ⟨[tP 0 1000000, (3, (.v (.sl (List.map GTerm.c [u1u.2])), [(0, .app 41)]))], [bC 1000000 (GParser.q u1u.1)], []⟩ (.cons (ih_pimpl_parser_term h108) (.cons (cl_cons (c := GTerm.c) (x := u1u.2) (GTerm.c_eq u1u.2) (cl_nil GTerm.c)) .nil)) ?_
      obtain ⟨out1, h109, h⟩ := obind h
      refine Wc.seqJ (fun st => ∃ (u36 : List GTerm) (u37 : GParser), out1 = .done (u36, u37) ∧ st = ⟨[(3, (.v (.sl (List.map GTerm.c u36)), [(0, .app 41)]))], [bC 1000000 (GParser.q u37)], []⟩) ?_ ?_
      · refine Wc.block ?_
        refine Wc.loop (fun m st => ∃ (u08 : List GTerm) (u25 : GParser), st = ⟨[tP 0 1000000, (3, (.v (.sl (List.map GTerm.c u08)), [(0, .app 41)]))], [bC 1000000 (GParser.q u25)], []⟩ ∧ pimpl_parser_terms_L1 k (pimpl_parser_primary k) (pimpl_parser_term k) (pimpl_parser_terms k) m u08 u25 = some out1) ?_ k ⟨_, _, rfl, h109⟩
        rintro m st ⟨u08, u25, rfl, h109⟩
        cases m with
        | zero => exact (onone h109).elim
        | succ m =>
          apply Wc.seq
          apply Wc.seq
          rcases oif h109 with ⟨h110, h109⟩ | ⟨h110, h109⟩
          · obtain ⟨u04, h111, h109⟩ := obind h109
            refine Wc.r2 [{}, {}, {}, {}, {}, { re := some (.bool true) }, {}, { r := some (.v (.bool u04.2) []), outs := [(0, .p (GParser.q u04.1) [])] }] ⟨[tP 0 1000000, (3, (.v (.sl (List.map GTerm.c u08)), [(0, .app 41)])), tB 15 u04.2], [bC 1000000 (GParser.q u04.1)], []⟩ (.cons (congrArg AV.bool h110) (.cons (cimpl_parser_isMark h111) .nil)) ?_
            rcases oif h109 with ⟨h112, h109⟩ | ⟨h112, h109⟩
            · refine Wc.cT h112 ?_
              refine Wc.fx [] ⟨[tP 0 1000000, (3, (.v (.sl (List.map GTerm.c u08)), [(0, .app 41)]))], [bC 1000000 (GParser.q u04.1)], []⟩ ?_
              refine Wc.skip ?_
              refine Wc.block ?_
              apply Wc.seq
              refine Wc.r0 ⟨[tP 0 1000000, (3, (.v (.sl (List.map GTerm.c u08)), [(0, .app 41)]))], [bC 1000000 [.sl (List.map GSign.c u04.1.gList), aI (wr.i64 (u04.1.gAt + 1)), .sl (List.map cS u04.1.gNames), aI u04.1.gDeep, .bool u04.1.gBad]], []⟩ ?_
              obtain ⟨u0m, h113, h109⟩ := obind h109
              obtain ⟨h114, h109⟩ := oguard h109
              refine Wc.r2 [{ tk := [3] }, {}, { r := some (.v (.agg (GTerm.q u0m.2)) []), outs := [(0, .p (GParser.q u0m.1) [])] }, { c := some (List.map GTerm.c [u0m.2]) }, { c := some (List.map GTerm.c (u08 ++ [u0m.2])), tk := [23] }, { tk := [27] }] ⟨[tP 0 1000000, (3, (.v (.sl (List.map GTerm.c (u08 ++ [u0m.2]))), [(0, .app 41)]))], [bC 1000000 (GParser.q u0m.1)], []⟩ (.cons (ih_pimpl_parser_term h113) (.cons (cl_cons (c := GTerm.c) (x := u0m.2) (GTerm.c_eq u0m.2) (cl_nil GTerm.c)) (.cons (app_re2 GTerm.c u08 [u0m.2]) (.cons (app_leaf (c := GTerm.c) (ys := [u0m.2]) GTerm.c_leaf) (.cons (app_obl2 (c := GTerm.c) (xs := u08) (ys := [u0m.2]) GTerm.c_len h114) .nil))))) ?_
              exact ⟨_, Nat.lt_succ_self _, _, _, rfl, h109⟩
            · refine Wc.cF h112 ?_
              refine Wc.fx [] ⟨[(3, (.v (.sl (List.map GTerm.c u08)), [(0, .app 41)]))], [bC 1000000 (GParser.q u04.1)], []⟩ ?_
              refine Wc.exit ?_
              obtain rfl := Option.some.inj h109
              exact ⟨_, _, rfl, rfl⟩
          · refine Wc.r2 [{}, {}, {}, {}, {}, { re := some (.bool false) }] ⟨[tP 0 1000000, (3, (.v (.sl (List.map GTerm.c u08)), [(0, .app 41)])), tB 15 false], [bC 1000000 (GParser.q u25)], []⟩ (.cons (congrArg AV.bool h110) .nil) ?_
            refine Wc.cF rfl ?_
            refine Wc.fx [] ⟨[(3, (.v (.sl (List.map GTerm.c u08)), [(0, .app 41)]))], [bC 1000000 (GParser.q u25)], []⟩ ?_
            refine Wc.exit ?_
            obtain rfl := Option.some.inj h109
            exact ⟨_, _, rfl, rfl⟩
      · rintro st ⟨u36, u37, rfl, rfl⟩
        apply Wc.seq
        refine Wc.r1 [{ tk := [3] }, { tk := [28] }] ⟨[(2, (.v (.sl (List.map GTerm.c u36)), [(0, .app 41)]))], [bC 1000000 (GParser.q u37)], []⟩ ?_
        obtain rfl := Option.some.inj h; exact Wc.ret dn
theorem cimpl_parser_primary {k : Nat} {u1r : GParser} {v4 : Int} {r : GParser × GTerm × Int} (h : pimpl_parser_primary k u1r v4 = some r) : FnO Tryz.prog 78 [.p (GParser.q u1r) [], .v (aI v4) []] (.v (.tup [.agg (GTerm.q r.2.1), aI r.2.2]) []) [(0, .p (GParser.q r.1) [])] := (all_pimpl_parser_primary k).1 h
theorem cimpl_parser_term {k : Nat} {zk : GParser} {vg : Int} {r : GParser × GTerm} (h : pimpl_parser_term k zk vg = some r) : FnO Tryz.prog 53 [.p (GParser.q zk) [], .v (aI vg) []] (.v (.agg (GTerm.q r.2)) []) [(0, .p (GParser.q r.1) [])] := (all_pimpl_parser_primary k).2.1 h
theorem cimpl_parser_terms {k : Nat} {u1t : GParser} {r : GParser × (List GTerm)} (h : pimpl_parser_terms k u1t = some r) : FnO Tryz.prog 107 [.p (GParser.q u1t) []] (.v (.sl (List.map GTerm.c r.2)) [(0, .app 41)]) [(0, .p (GParser.q r.1) [])] := (all_pimpl_parser_primary k).2.2 h

def pimpl_TermOk (k : Nat) (uy : GTerm) : Option Bool :=
  (pimpl_sized k uy 1).bind fun vj =>
  some (decide (vj ≤ 400))
theorem cimpl_TermOk {k : Nat} {uy : GTerm} {r : Bool} (h : pimpl_TermOk k uy = some r) : FnO Tryz.prog 55 [.v (.agg (GTerm.q uy)) []] (.v (.bool r) []) [] := by
  refine FnO.o2 Tryz.func55 (rfl : Tryz.f55.body = some _) ?_
  intro w0 X0 Fin pv0 pb gt
  unfold pimpl_TermOk at h
  apply Wc.seq
  refine Wc.r0 ⟨[tP 1 1], [bC 1 (GTerm.q uy)], []⟩ ?_
  apply Wc.seq
  obtain ⟨vj, h7, h⟩ := obind h
  refine Wc.r2 [{}, { r := some (.v (aI vj) []) }] ⟨[tB 2 (decide (vj ≤ 400))], [], []⟩ (.cons (cimpl_sized h7) .nil) ?_
  obtain rfl := Option.some.inj h; exact Wc.ret dn

def pimpl_isStruct (k : Nat) (u1v : GTerm) (zd : ByteArray) (u5 : Int) : Option Bool :=
  if (u1v.gKind == 4) = true then
    if (sEq u1v.gName zd) = true then
      some ((u1v.gKids.length : Int) == u5)
    else
      some false
  else
    some false
theorem cimpl_isStruct {k : Nat} {u1v : GTerm} {zd : ByteArray} {u5 : Int} {r : Bool} (h : pimpl_isStruct k u1v zd u5 = some r) : FnO Tryz.prog 35 [.v (.agg (GTerm.q u1v)) [], .v (.str zd) [], .v (aI u5) []] (.v (.bool r) []) [] := by
  refine FnO.o2 Tryz.func35 (rfl : Tryz.f35.body = some _) ?_
  intro w0 X0 Fin pv0 pb gt
  unfold pimpl_isStruct at h
  apply Wc.seq
  refine Wc.r0 ⟨[tS 1 zd, tI 2 u5, tP 3 3], [bC 3 (GTerm.q u1v)], []⟩ ?_
  apply Wc.seq
  rcases oif h with ⟨h1, h⟩ | ⟨h1, h⟩
  · rcases oif h with ⟨h2, h⟩ | ⟨h2, h⟩
    · refine Wc.r2 [{}, {}, {}, { re := some (.bool true) }, {}, {}, {}, {}, {}, { re := some (.bool true) }, {}, {}, { v := some (aI (u1v.gKids.length : Int)) }] ⟨[tB 6 ((u1v.gKids.length : Int) == u5)], [], []⟩ (.cons (congrArg AV.bool h1) (.cons (congrArg AV.bool h2) (.cons (len_obl GTerm.c u1v.gKids) .nil))) ?_
      obtain rfl := Option.some.inj h; exact Wc.ret dn
    · refine Wc.r2 [{}, {}, {}, { re := some (.bool true) }, {}, {}, {}, {}, {}, { re := some (.bool false) }] ⟨[tB 6 false], [], []⟩ (.cons (congrArg AV.bool h1) (.cons (congrArg AV.bool h2) .nil)) ?_
      obtain rfl := Option.some.inj h; exact Wc.ret dn
  · refine Wc.r2 [{}, {}, {}, { re := some (.bool false) }] ⟨[tB 6 false], [], []⟩ (.cons (congrArg AV.bool h1) .nil) ?_
    obtain rfl := Option.some.inj h; exact Wc.ret dn

def pimpl_isAtom (k : Nat) (uy : GTerm) (uv : ByteArray) : Option Bool :=
  none
theorem cimpl_isAtom {k : Nat} {uy : GTerm} {uv : ByteArray} {r : Bool} (h : pimpl_isAtom k uy uv = some r) : FnO Tryz.prog 59 [.v (.agg (GTerm.q uy)) [], .v (.str uv) []] (.v (.bool r) []) [] := by
  refine FnO.o2 Tryz.func59 (rfl : Tryz.f59.body = some _) ?_
  intro w0 X0 Fin pv0 pb gt
  unfold pimpl_isAtom at h
  exact (onone h).elim

def pstrconv_Itoa (k : Nat) (n : Int) : Option ByteArray :=
  if -9223372036854775808 ≤ n ∧ n ≤ 9223372036854775807 then some ⟨(Lib.itoa n).toArray⟩ else none
theorem cstrconv_Itoa {k : Nat} {n : Int} {r : ByteArray} (h : pstrconv_Itoa k n = some r) : FnO Tryz.prog 91 [.v (aI n) []] (.v (.str r) []) [] := itoa_O Tryz.strconv_Itoa tab_at h

def pimpl_Decimal (k : Nat) (z0 : Int) : Option ByteArray :=
  (pstrconv_Itoa k z0).bind fun vr =>
  some vr
theorem cimpl_Decimal {k : Nat} {z0 : Int} {r : ByteArray} (h : pimpl_Decimal k z0 = some r) : FnO Tryz.prog 61 [.v (aI z0) []] (.v (.str r) []) [] := by
  refine FnO.o2 Tryz.func61 (rfl : Tryz.f61.body = some _) ?_
  intro w0 X0 Fin pv0 pb gt
  unfold pimpl_Decimal at h
  apply Wc.seq
  refine Wc.r0 ⟨[tI 0 z0], [], []⟩ ?_
  apply Wc.seq
  obtain ⟨vr, h2, h⟩ := obind h
  refine Wc.r2 [{}, { r := some (.v (.str vr) []) }] ⟨[tS 2 vr], [], []⟩ (.cons (cstrconv_Itoa h2) .nil) ?_
  obtain rfl := Option.some.inj h; exact Wc.ret dn

def pimpl_PredOf_J1 (k : Nat) (v8 : GTerm) : Option ByteArray :=
  if sumOk v8.gName (bs [47]) then
    (pimpl_Decimal k (v8.gKids.length : Int)).bind fun vw =>
    if sumOk (v8.gName ++ (bs [47])) vw then
      some ((v8.gName ++ (bs [47])) ++ vw)
    else none
  else none
def pimpl_PredOf (k : Nat) (v8 : GTerm) : Option ByteArray :=
  if (v8.gKind != 2) = true then
    if (v8.gKind != 4) = true then
      none
    else
      pimpl_PredOf_J1 k v8
  else
    pimpl_PredOf_J1 k v8
theorem cimpl_PredOf {k : Nat} {v8 : GTerm} {r : ByteArray} (h : pimpl_PredOf k v8 = some r) : FnO Tryz.prog 99 [.v (.agg (GTerm.q v8)) []] (.v (.str r) []) [] := by
  refine FnO.o2 Tryz.func99 (rfl : Tryz.f99.body = some _) ?_
  intro w0 X0 Fin pv0 pb gt
  unfold pimpl_PredOf at h
  apply Wc.seq
  refine Wc.r0 ⟨[tP 1 1], [bC 1 (GTerm.q v8)], []⟩ ?_
  refine Wc.seqJ (fun st => st = ⟨[tP 1 1], [bC 1 (GTerm.q v8)], []⟩ ∧ pimpl_PredOf_J1 k v8 = some r) ?_ ?_
  · apply Wc.seq
    rcases oif h with ⟨h6, h⟩ | ⟨h6, h⟩
    · refine Wc.r2 [{}, {}, {}, { re := some (.bool true) }] ⟨[tP 1 1, tB 10 (v8.gKind != 4)], [bC 1 (GTerm.q v8)], []⟩ (.cons (congrArg AV.bool h6) .nil) ?_
      rcases oif h with ⟨h7, h⟩ | ⟨h7, h⟩
      · refine Wc.cT h7 ?_
        exact (onone h).elim
      · refine Wc.cF h7 ?_
        refine Wc.fx [] ⟨[tP 1 1], [bC 1 (GTerm.q v8)], []⟩ ?_
        refine Wc.skip ?_
        exact ⟨rfl, h⟩
    · refine Wc.r2 [{}, {}, {}, { re := some (.bool false) }] ⟨[tP 1 1, tB 10 false], [bC 1 (GTerm.q v8)], []⟩ (.cons (congrArg AV.bool h6) .nil) ?_
      refine Wc.cF rfl ?_
      refine Wc.fx [] ⟨[tP 1 1], [bC 1 (GTerm.q v8)], []⟩ ?_
      refine Wc.skip ?_
      exact ⟨rfl, h⟩
  · rintro st ⟨rfl, h⟩
    apply Wc.seq
    obtain ⟨h3, h⟩ := oguard h
    obtain ⟨vw, h4, h⟩ := obind h
    obtain ⟨h5, h⟩ := oguard h
    refine Wc.draw hmix [{}, {}, {}, {}, {}, { v := some (aI (v8.gKids.length : Int)) }, { r := some (.v (.str vw) []) }] [] [2] [] [] ⟨[tS 2 ((v8.gName ++ (bs [47])) ++ vw)], [], []⟩ _ (by kernel_rfl) (fun X => by kernel_rfl) (.cons h3 (.cons (len_obl GTerm.c v8.gKids) (.cons (cimpl_Decimal h4) (.cons h5 .nil)))) ?_
    obtain rfl := Option.some.inj h; exact Wc.ret dn

def pimpl_ClausesOf_L1 (k : Nat) (v0 : GDb) (vo : ByteArray) : Nat → Int → Option (Out (List GClause) Unit)
  | 0, _ => none
  | m + 1, u0v =>
    if (decide (u0v < (v0.gClauses.length : Int))) = true then
      (at' v0.gClauses u0v).bind fun zr =>
      (pimpl_PredOf k zr.gHead).bind fun u4 =>
      if (sEq u4 vo) = true then
        none
      else
        pimpl_ClausesOf_L1 k v0 vo m (wr.i64 (u0v + 1))
    else
      some (.done ())
def pimpl_ClausesOf (k : Nat) (v0 : GDb) (vo : ByteArray) : Option (List GClause) :=
  (pimpl_ClausesOf_L1 k v0 vo k 0).bind fun out1 => match out1 with
  | .ret r => some r
  | .done () =>
    some []
theorem cimpl_ClausesOf {k : Nat} {v0 : GDb} {vo : ByteArray} {r : (List GClause)} (h : pimpl_ClausesOf k v0 vo = some r) : FnO Tryz.prog 92 [.v (.agg (GDb.q v0)) [], .v (.str vo) []] (.v (.sl (List.map GClause.c r)) [(0, .app 43)]) [] := by
  refine FnO.o2 Tryz.func92 (rfl : Tryz.f92.body = some _) ?_
  intro w0 X0 Fin pv0 pb gt
  unfold pimpl_ClausesOf at h
  apply Wc.seq
  refine Wc.r0 ⟨[tS 1 vo, tP 2 2], [bC 2 (GDb.q v0)], []⟩ ?_
  apply Wc.seq
  refine Wc.r0 ⟨[tS 1 vo, tP 2 2, (5, (.v (.sl (List.map GClause.c [])), [(0, .app 43)]))], [bC 2 (GDb.q v0)], []⟩ ?_
  apply Wc.seq
  apply Wc.seq
  refine Wc.r2 [{}, {}, { v := some (aI (v0.gClauses.length : Int)) }] ⟨[tS 1 vo, (5, (.v (.sl (List.map GClause.c [])), [(0, .app 43)])), tV 9 (.sl (List.map GClause.c v0.gClauses)), tI 10 (v0.gClauses.length : Int), tI 11 0], [], []⟩ (.cons (len_obl GClause.c v0.gClauses) .nil) ?_
  obtain ⟨out1, h7, h⟩ := obind h
  refine Wc.lastJ (fun st => out1 = .done () ∧ st = ⟨[(5, (.v (.sl (List.map GClause.c [])), [(0, .app 43)]))], [], []⟩) ?_ ?_
  · refine Wc.block ?_
    refine Wc.loop (fun m st => ∃ (u0v : Int), st = ⟨[tS 1 vo, (5, (.v (.sl (List.map GClause.c [])), [(0, .app 43)])), tV 9 (.sl (List.map GClause.c v0.gClauses)), tI 10 (v0.gClauses.length : Int), tI 11 u0v], [], []⟩ ∧ pimpl_ClausesOf_L1 k v0 vo m u0v = some out1) ?_ k ⟨_, rfl, h7⟩
    rintro m st ⟨u0v, rfl, h7⟩
    cases m with
    | zero => exact (onone h7).elim
    | succ m =>
      apply Wc.seq
      refine Wc.r0 ⟨[tS 1 vo, (5, (.v (.sl (List.map GClause.c [])), [(0, .app 43)])), tV 9 (.sl (List.map GClause.c v0.gClauses)), tI 10 (v0.gClauses.length : Int), tI 11 u0v, tB 12 (decide (u0v < (v0.gClauses.length : Int)))], [], []⟩ ?_
      apply Wc.seq
      rcases oif h7 with ⟨h8, h7⟩ | ⟨h8, h7⟩
      · refine Wc.cT h8 ?_
        refine Wc.fx [] ⟨[tS 1 vo, (5, (.v (.sl (List.map GClause.c [])), [(0, .app 43)])), tV 9 (.sl (List.map GClause.c v0.gClauses)), tI 10 (v0.gClauses.length : Int), tI 11 u0v], [], []⟩ ?_
        refine Wc.skip ?_
        apply Wc.seq
        refine Wc.block ?_
        apply Wc.seq
        obtain ⟨zr, h9, h7⟩ := obind h7
        refine Wc.r2 [{ v := some (.vptr (GClause.q zr)) }] ⟨[tS 1 vo, (5, (.v (.sl (List.map GClause.c [])), [(0, .app 43)])), tP 7 7, tV 9 (.sl (List.map GClause.c v0.gClauses)), tI 10 (v0.gClauses.length : Int), tI 11 u0v], [bC 7 (GClause.q zr)], []⟩ (.cons (at_obl (c := GClause.c) (GClause.c_eq zr) GClause.c_len h9) (.cons (len_ok 9 (GClause.q zr)) .nil)) ?_
        apply Wc.seq
        obtain ⟨u4, h10, h7⟩ := obind h7
        refine Wc.r2 [{}, {}, { r := some (.v (.str u4) []) }] ⟨[tS 1 vo, (5, (.v (.sl (List.map GClause.c [])), [(0, .app 43)])), tV 9 (.sl (List.map GClause.c v0.gClauses)), tI 10 (v0.gClauses.length : Int), tI 11 u0v, tB 19 (sEq u4 vo)], [], []⟩ (.cons (cimpl_PredOf h10) .nil) ?_
        rcases oif h7 with ⟨h11, h7⟩ | ⟨h11, h7⟩
        · refine Wc.cT h11 ?_
          exact (onone h7).elim
        · refine Wc.cF h11 ?_
          refine Wc.fx [] ⟨[tS 1 vo, (5, (.v (.sl (List.map GClause.c [])), [(0, .app 43)])), tV 9 (.sl (List.map GClause.c v0.gClauses)), tI 10 (v0.gClauses.length : Int), tI 11 u0v], [], []⟩ ?_
          refine Wc.skip ?_
          refine Wc.r0 ⟨[tS 1 vo, (5, (.v (.sl (List.map GClause.c [])), [(0, .app 43)])), tV 9 (.sl (List.map GClause.c v0.gClauses)), tI 10 (v0.gClauses.length : Int), tI 11 (wr.i64 (u0v + 1))], [], []⟩ ?_
          exact ⟨_, Nat.lt_succ_self _, _, rfl, h7⟩
      · refine Wc.cF h8 ?_
        refine Wc.fx [] ⟨[(5, (.v (.sl (List.map GClause.c [])), [(0, .app 43)]))], [], []⟩ ?_
        refine Wc.exit ?_
        obtain rfl := Option.some.inj h7
        exact ⟨rfl, rfl⟩
  · rintro st ⟨rfl, rfl⟩
    apply Wc.seq
    refine Wc.r1 [{ tk := [5] }, { tk := [26] }] ⟨[(4, (.v (.sl (List.map GClause.c [])), [(0, .app 43)]))], [], []⟩ ?_
    obtain rfl := Option.some.inj h; exact Wc.ret dn

def pslices_Index___string_string__L1 (k : Nat) (z7 : List ByteArray) (uv : ByteArray) : Nat → Int → Option (Out Int Unit)
  | 0, _ => none
  | m + 1, zc =>
    if (decide (zc < (z7.length : Int))) = true then
      (at' z7 zc).bind fun u13 =>
      if (sEq uv u13) = true then
        some (.ret zc)
      else
        pslices_Index___string_string__L1 k z7 uv m (wr.i64 (zc + 1))
    else
      some (.done ())
def pslices_Index___string_string_ (k : Nat) (z7 : List ByteArray) (uv : ByteArray) : Option Int :=
  (pslices_Index___string_string__L1 k z7 uv k 0).bind fun out1 => match out1 with
  | .ret r => some r
  | .done () =>
    some (-1)
theorem cslices_Index___string_string_ {k : Nat} {z7 : List ByteArray} {uv : ByteArray} {r : Int} (h : pslices_Index___string_string_ k z7 uv = some r) : FnO Tryz.prog 116 [.v (.sl (List.map cS z7)) [], .v (.str uv) []] (.v (aI r) []) [] := by
  refine FnO.o2 Tryz.func116 (rfl : Tryz.f116.body = some _) ?_
  intro w0 X0 Fin pv0 pb gt
  unfold pslices_Index___string_string_ at h
  apply Wc.seq
  refine Wc.r0 ⟨[tV 0 (.sl (List.map cS z7)), tS 1 uv], [], []⟩ ?_
  apply Wc.seq
  apply Wc.seq
  refine Wc.r2 [{}, { v := some (aI (z7.length : Int)) }] ⟨[tV 0 (.sl (List.map cS z7)), tS 1 uv, tI 7 (z7.length : Int), tI 8 0], [], []⟩ (.cons (len_obl cS z7) .nil) ?_
  obtain ⟨out1, h4, h⟩ := obind h
  refine Wc.lastJ (fun st => out1 = .done () ∧ st = ⟨[], [], []⟩) ?_ ?_
  · refine Wc.block ?_
    refine Wc.loop (fun m st => ∃ (zc : Int), st = ⟨[tV 0 (.sl (List.map cS z7)), tS 1 uv, tI 7 (z7.length : Int), tI 8 zc], [], []⟩ ∧ pslices_Index___string_string__L1 k z7 uv m zc = some out1) ?_ k ⟨_, rfl, h4⟩
    rintro m st ⟨zc, rfl, h4⟩
    cases m with
    | zero => exact (onone h4).elim
    | succ m =>
      apply Wc.seq
      refine Wc.r0 ⟨[tV 0 (.sl (List.map cS z7)), tS 1 uv, tI 7 (z7.length : Int), tI 8 zc, tB 9 (decide (zc < (z7.length : Int)))], [], []⟩ ?_
      apply Wc.seq
      rcases oif h4 with ⟨h5, h4⟩ | ⟨h5, h4⟩
      · refine Wc.cT h5 ?_
        refine Wc.fx [] ⟨[tV 0 (.sl (List.map cS z7)), tS 1 uv, tI 7 (z7.length : Int), tI 8 zc], [], []⟩ ?_
        refine Wc.skip ?_
        apply Wc.seq
        refine Wc.block ?_
        apply Wc.seq
        refine Wc.r0 ⟨[tV 0 (.sl (List.map cS z7)), tS 1 uv, tI 5 zc, tI 7 (z7.length : Int), tI 8 zc], [], []⟩ ?_
        apply Wc.seq
        obtain ⟨u13, h6, h4⟩ := obind h4
        refine Wc.r2 [{}, {}, {}, { v := some (.vptr [.str u13]) }] ⟨[tV 0 (.sl (List.map cS z7)), tS 1 uv, tI 5 zc, tI 7 (z7.length : Int), tI 8 zc, tB 16 (sEq uv u13)], [], []⟩ (.cons (at_obl (c := cS) rfl cS_len h6) (.cons (len_ok 1 [.str u13]) .nil)) ?_
        rcases oif h4 with ⟨h7, h4⟩ | ⟨h7, h4⟩
        · refine Wc.cT h7 ?_
          apply Wc.seq
          refine Wc.r0 ⟨[tI 4 zc], [], []⟩ ?_
          refine Wc.ret ?_
          obtain rfl := Option.some.inj h4
          obtain rfl := Option.some.inj h
          exact ⟨.inl rfl, by kernel_rfl, by kernel_rfl⟩
        · refine Wc.cF h7 ?_
          refine Wc.fx [] ⟨[tV 0 (.sl (List.map cS z7)), tS 1 uv, tI 7 (z7.length : Int), tI 8 zc], [], []⟩ ?_
          refine Wc.skip ?_
          refine Wc.r0 ⟨[tV 0 (.sl (List.map cS z7)), tS 1 uv, tI 7 (z7.length : Int), tI 8 (wr.i64 (zc + 1))], [], []⟩ ?_
          exact ⟨_, Nat.lt_succ_self _, _, rfl, h4⟩
      · refine Wc.cF h5 ?_
        refine Wc.fx [] ⟨[], [], []⟩ ?_
        refine Wc.exit ?_
        obtain rfl := Option.some.inj h4
        exact ⟨rfl, rfl⟩
  · rintro st ⟨rfl, rfl⟩
    apply Wc.seq
    refine Wc.r0 ⟨[tI 4 (-1)], [], []⟩ ?_
    obtain rfl := Option.some.inj h; exact Wc.ret dn

def pslices_Contains___string_string_ (k : Nat) (u3r : List ByteArray) (vw : ByteArray) : Option Bool :=
  (pslices_Index___string_string_ k u3r vw).bind fun vj =>
  some (decide (vj ≥ 0))
theorem cslices_Contains___string_string_ {k : Nat} {u3r : List ByteArray} {vw : ByteArray} {r : Bool} (h : pslices_Contains___string_string_ k u3r vw = some r) : FnO Tryz.prog 90 [.v (.sl (List.map cS u3r)) [], .v (.str vw) []] (.v (.bool r) []) [] := by
  refine FnO.o2 Tryz.func90 (rfl : Tryz.f90.body = some _) ?_
  intro w0 X0 Fin pv0 pb gt
  unfold pslices_Contains___string_string_ at h
  apply Wc.seq
  refine Wc.r0 ⟨[tV 0 (.sl (List.map cS u3r)), tS 1 vw], [], []⟩ ?_
  apply Wc.seq
  obtain ⟨vj, h4, h⟩ := obind h
  refine Wc.r2 [{}, {}, { r := some (.v (aI vj) []) }] ⟨[tB 4 (decide (vj ≥ 0))], [], []⟩ (.cons (cslices_Index___string_string_ h4) .nil) ?_
  obtain rfl := Option.some.inj h; exact Wc.ret dn

def pimpl_Control (k : Nat) (zd : ByteArray) : Option Bool :=
  (pslices_Contains___string_string_ k [(bs [116, 114, 117, 101, 47, 48]), (bs [102, 97, 105, 108, 47, 48]), (bs [33, 47, 48]), (bs [44, 47, 50]), (bs [59, 47, 50]), (bs [45, 62, 47, 50]), (bs [92, 43, 47, 49]), (bs [99, 97, 108, 108, 47, 49]), (bs [99, 97, 108, 108, 47, 50]), (bs [99, 97, 108, 108, 47, 51]), (bs [99, 97, 116, 99, 104, 47, 51]), (bs [116, 104, 114, 111, 119, 47, 49]), (bs [61, 47, 50]), (bs [92, 61, 47, 50]), (bs [61, 61, 47, 50]), (bs [105, 115, 47, 50]), (bs [60, 47, 50]), (bs [61, 58, 61, 47, 50]), (bs [118, 97, 114, 47, 49]), (bs [97, 116, 111, 109, 47, 49]), (bs [119, 114, 105, 116, 101, 47, 49]), (bs [97, 115, 115, 101, 114, 116, 122, 47, 49]), (bs [114, 101, 116, 114, 97, 99, 116, 47, 49]), (bs [58, 45, 47, 50]), (bs [58, 45, 47, 49]), (bs [45, 45, 62, 47, 50])] zd).bind fun u1p =>
  some u1p
theorem cimpl_Control {k : Nat} {zd : ByteArray} {r : Bool} (h : pimpl_Control k zd = some r) : FnO Tryz.prog 98 [.v (.str zd) []] (.v (.bool r) []) [] := by
  refine FnO.o2 Tryz.func98 (rfl : Tryz.f98.body = some _) ?_
  intro w0 X0 Fin pv0 pb gt
  unfold pimpl_Control at h
  apply Wc.seq
  refine Wc.r0 ⟨[tS 0 zd], [], []⟩ ?_
  apply Wc.seq
  refine Wc.r2 [{ c := some (List.map cS [(bs [116, 114, 117, 101, 47, 48]), (bs [102, 97, 105, 108, 47, 48]), (bs [33, 47, 48]), (bs [44, 47, 50]), (bs [59, 47, 50]), (bs [45, 62, 47, 50]), (bs [92, 43, 47, 49]), (bs [99, 97, 108, 108, 47, 49]), (bs [99, 97, 108, 108, 47, 50]), (bs [99, 97, 108, 108, 47, 51]), (bs [99, 97, 116, 99, 104, 47, 51]), (bs [116, 104, 114, 111, 119, 47, 49]), (bs [61, 47, 50]), (bs [92, 61, 47, 50]), (bs [61, 61, 47, 50]), (bs [105, 115, 47, 50]), (bs [60, 47, 50]), (bs [61, 58, 61, 47, 50]), (bs [118, 97, 114, 47, 49]), (bs [97, 116, 111, 109, 47, 49]), (bs [119, 114, 105, 116, 101, 47, 49]), (bs [97, 115, 115, 101, 114, 116, 122, 47, 49]), (bs [114, 101, 116, 114, 97, 99, 116, 47, 49]), (bs [58, 45, 47, 50]), (bs [58, 45, 47, 49]), (bs [45, 45, 62, 47, 50])]) }, { tk := [4] }] ⟨[tS 0 zd, (3, (.v (.sl (List.map cS [(bs [116, 114, 117, 101, 47, 48]), (bs [102, 97, 105, 108, 47, 48]), (bs [33, 47, 48]), (bs [44, 47, 50]), (bs [59, 47, 50]), (bs [45, 62, 47, 50]), (bs [92, 43, 47, 49]), (bs [99, 97, 108, 108, 47, 49]), (bs [99, 97, 108, 108, 47, 50]), (bs [99, 97, 108, 108, 47, 51]), (bs [99, 97, 116, 99, 104, 47, 51]), (bs [116, 104, 114, 111, 119, 47, 49]), (bs [61, 47, 50]), (bs [92, 61, 47, 50]), (bs [61, 61, 47, 50]), (bs [105, 115, 47, 50]), (bs [60, 47, 50]), (bs [61, 58, 61, 47, 50]), (bs [118, 97, 114, 47, 49]), (bs [97, 116, 111, 109, 47, 49]), (bs [119, 114, 105, 116, 101, 47, 49]), (bs [97, 115, 115, 101, 114, 116, 122, 47, 49]), (bs [114, 101, 116, 114, 97, 99, 116, 47, 49]), (bs [58, 45, 47, 50]), (bs [58, 45, 47, 49]), (bs [45, 45, 62, 47, 50])])), [(0, .app 9)]))], [], []⟩ (.cons (cl_cons (c := cS) (x := (bs [116, 114, 117, 101, 47, 48])) rfl (cl_cons (c := cS) (x := (bs [102, 97, 105, 108, 47, 48])) rfl (cl_cons (c := cS) (x := (bs [33, 47, 48])) rfl (cl_cons (c := cS) (x := (bs [44, 47, 50])) rfl (cl_cons (c := cS) (x := (bs [59, 47, 50])) rfl (cl_cons (c := cS) (x := (bs [45, 62, 47, 50])) rfl (cl_cons (c := cS) (x := (bs [92, 43, 47, 49])) rfl (cl_cons (c := cS) (x := (bs [99, 97, 108, 108, 47, 49])) rfl (cl_cons (c := cS) (x := (bs [99, 97, 108, 108, 47, 50])) rfl (cl_cons (c := cS) (x := (bs [99, 97, 108, 108, 47, 51])) rfl (cl_cons (c := cS) (x := (bs [99, 97, 116, 99, 104, 47, 51])) rfl (cl_cons (c := cS) (x := (bs [116, 104, 114, 111, 119, 47, 49])) rfl (cl_cons (c := cS) (x := (bs [61, 47, 50])) rfl (cl_cons (c := cS) (x := (bs [92, 61, 47, 50])) rfl (cl_cons (c := cS) (x := (bs [61, 61, 47, 50])) rfl (cl_cons (c := cS) (x := (bs [105, 115, 47, 50])) rfl (cl_cons (c := cS) (x := (bs [60, 47, 50])) rfl (cl_cons (c := cS) (x := (bs [61, 58, 61, 47, 50])) rfl (cl_cons (c := cS) (x := (bs [118, 97, 114, 47, 49])) rfl (cl_cons (c := cS) (x := (bs [97, 116, 111, 109, 47, 49])) rfl (cl_cons (c := cS) (x := (bs [119, 114, 105, 116, 101, 47, 49])) rfl (cl_cons (c := cS) (x := (bs [97, 115, 115, 101, 114, 116, 122, 47, 49])) rfl (cl_cons (c := cS) (x := (bs [114, 101, 116, 114, 97, 99, 116, 47, 49])) rfl (cl_cons (c := cS) (x := (bs [58, 45, 47, 50])) rfl (cl_cons (c := cS) (x := (bs [58, 45, 47, 49])) rfl (cl_cons (c := cS) (x := (bs [45, 45, 62, 47, 50])) rfl (cl_nil cS))))))))))))))))))))))))))) .nil) ?_
  apply Wc.seq
  obtain ⟨u1p, h4, h⟩ := obind h
  refine Wc.r2 [{ tk := [3] }, {}, { r := some (.v (.bool u1p) []) }] ⟨[tB 2 u1p], [], []⟩ (.cons (cslices_Contains___string_string_ h4) .nil) ?_
  obtain rfl := Option.some.inj h; exact Wc.ret dn

def pimpl_atom (k : Nat) (vh : ByteArray) : Option GTerm :=
  some (GTerm.mk 2 vh 0 [])
theorem cimpl_atom {k : Nat} {vh : ByteArray} {r : GTerm} (h : pimpl_atom k vh = some r) : FnO Tryz.prog 100 [.v (.str vh) []] (.v (.agg (GTerm.q r)) [(3, .app 41)]) [] := by
  refine FnO.o2 Tryz.func100 (rfl : Tryz.f100.body = some _) ?_
  intro w0 X0 Fin pv0 pb gt
  unfold pimpl_atom at h
  apply Wc.seq
  refine Wc.r0 ⟨[tS 0 vh, tP 2 2], [(2, .cells GTerm.z [(3, .app 41)])], []⟩ ?_
  apply Wc.seq
  refine Wc.r1 [{}, {}, { tk := [4] }] ⟨[tP 2 2], [(2, .cells [aI 2, .str vh, aI 0, .sl (List.map GTerm.c [])] [(3, .app 41)])], []⟩ ?_
  obtain rfl := Option.some.inj h; exact Wc.ret dn

def pimpl_headOk (k : Nat) (uy : GTerm) : Option Bool :=
  (pimpl_PredOf k uy).bind fun uv =>
  if (!(sEq uv (bs []))) = true then
    (pimpl_PredOf k uy).bind fun ub =>
    (pimpl_Control k ub).bind fun zw =>
    some (!zw)
  else
    some false
theorem cimpl_headOk {k : Nat} {uy : GTerm} {r : Bool} (h : pimpl_headOk k uy = some r) : FnO Tryz.prog 101 [.v (.agg (GTerm.q uy)) []] (.v (.bool r) []) [] := by
  refine FnO.o2 Tryz.func101 (rfl : Tryz.f101.body = some _) ?_
  intro w0 X0 Fin pv0 pb gt
  unfold pimpl_headOk at h
  apply Wc.seq
  refine Wc.r0 ⟨[tP 1 1], [bC 1 (GTerm.q uy)], []⟩ ?_
  apply Wc.seq
  obtain ⟨uv, h6, h⟩ := obind h
  rcases oif h with ⟨h7, h⟩ | ⟨h7, h⟩
  · obtain ⟨ub, h8, h⟩ := obind h
    obtain ⟨zw, h9, h⟩ := obind h
    refine Wc.r2 [{}, { r := some (.v (.str uv) []) }, {}, { re := some (.bool true) }, {}, { r := some (.v (.str ub) []) }, { r := some (.v (.bool zw) []) }] ⟨[tB 2 (!zw)], [], []⟩ (.cons (cimpl_PredOf h6) (.cons (congrArg AV.bool h7) (.cons (cimpl_PredOf h8) (.cons (cimpl_Control h9) .nil)))) ?_
    obtain rfl := Option.some.inj h; exact Wc.ret dn
  · refine Wc.r2 [{}, { r := some (.v (.str uv) []) }, {}, { re := some (.bool false) }] ⟨[tB 2 false], [], []⟩ (.cons (cimpl_PredOf h6) (.cons (congrArg AV.bool h7) .nil)) ?_
    obtain rfl := Option.some.inj h; exact Wc.ret dn

def pimpl_DbOk_L1 (k : Nat) (um : GDb) : Nat → Int → Option (Out Bool Unit)
  | 0, _ => none
  | m + 1, un =>
    if (decide (un < (um.gClauses.length : Int))) = true then
      (at' um.gClauses un).bind fun u2g =>
      (pimpl_TermOk k u2g.gHead).bind fun u3s =>
      if (!u3s) = true then
        none
      else
        (pimpl_TermOk k u2g.gBody).bind fun zw =>
        if (!zw) = true then
          none
        else
          (pimpl_headOk k u2g.gHead).bind fun u0l =>
          if (!u0l) = true then
            none
          else
            pimpl_DbOk_L1 k um m (wr.i64 (un + 1))
    else
      some (.done ())
def pimpl_DbOk (k : Nat) (um : GDb) : Option Bool :=
  (pimpl_DbOk_L1 k um k 0).bind fun out1 => match out1 with
  | .ret r => some r
  | .done () =>
    if (decide ((um.gClauses.length : Int) ≤ 120)) = true then
      some (decide ((um.gOpen.length : Int) ≤ 40))
    else
      some false
theorem cimpl_DbOk {k : Nat} {um : GDb} {r : Bool} (h : pimpl_DbOk k um = some r) : FnO Tryz.prog 83 [.v (.agg (GDb.q um)) []] (.v (.bool r) []) [] := by
  refine FnO.o2 Tryz.func83 (rfl : Tryz.f83.body = some _) ?_
  intro w0 X0 Fin pv0 pb gt
  unfold pimpl_DbOk at h
  apply Wc.seq
  refine Wc.r0 ⟨[tP 1 1], [bC 1 (GDb.q um)], []⟩ ?_
  apply Wc.seq
  apply Wc.seq
  refine Wc.r2 [{}, {}, { v := some (aI (um.gClauses.length : Int)) }] ⟨[tP 1 1, tV 6 (.sl (List.map GClause.c um.gClauses)), tI 7 (um.gClauses.length : Int), tI 8 0], [bC 1 (GDb.q um)], []⟩ (.cons (len_obl GClause.c um.gClauses) .nil) ?_
  obtain ⟨out1, h4, h⟩ := obind h
  refine Wc.lastJ (fun st => out1 = .done () ∧ st = ⟨[tP 1 1], [bC 1 (GDb.q um)], []⟩) ?_ ?_
  · refine Wc.block ?_
    refine Wc.loop (fun m st => ∃ (un : Int), st = ⟨[tP 1 1, tV 6 (.sl (List.map GClause.c um.gClauses)), tI 7 (um.gClauses.length : Int), tI 8 un], [bC 1 (GDb.q um)], []⟩ ∧ pimpl_DbOk_L1 k um m un = some out1) ?_ k ⟨_, rfl, h4⟩
    rintro m st ⟨un, rfl, h4⟩
    cases m with
    | zero => exact (onone h4).elim
    | succ m =>
      apply Wc.seq
      refine Wc.r0 ⟨[tP 1 1, tV 6 (.sl (List.map GClause.c um.gClauses)), tI 7 (um.gClauses.length : Int), tI 8 un, tB 9 (decide (un < (um.gClauses.length : Int)))], [bC 1 (GDb.q um)], []⟩ ?_
      apply Wc.seq
      rcases oif h4 with ⟨h5, h4⟩ | ⟨h5, h4⟩
      · refine Wc.cT h5 ?_
        refine Wc.fx [] ⟨[tP 1 1, tV 6 (.sl (List.map GClause.c um.gClauses)), tI 7 (um.gClauses.length : Int), tI 8 un], [bC 1 (GDb.q um)], []⟩ ?_
        refine Wc.skip ?_
        apply Wc.seq
        refine Wc.block ?_
        apply Wc.seq
        obtain ⟨u2g, h6, h4⟩ := obind h4
        refine Wc.r2 [{ v := some (.vptr (GClause.q u2g)) }] ⟨[tP 1 1, tP 4 4, tV 6 (.sl (List.map GClause.c um.gClauses)), tI 7 (um.gClauses.length : Int), tI 8 un], [bC 1 (GDb.q um), bC 4 (GClause.q u2g)], []⟩ (.cons (at_obl (c := GClause.c) (GClause.c_eq u2g) GClause.c_len h6) (.cons (len_ok 9 (GClause.q u2g)) .nil)) ?_
        apply Wc.seq
        obtain ⟨u3s, h7, h4⟩ := obind h4
        rcases oif h4 with ⟨h8, h4⟩ | ⟨h8, h4⟩
        · refine Wc.r2 [{}, {}, { r := some (.v (.bool u3s) []) }, {}, { re := some (.bool true) }] ⟨[tP 1 1, tV 6 (.sl (List.map GClause.c um.gClauses)), tI 7 (um.gClauses.length : Int), tI 8 un, tB 27 true], [bC 1 (GDb.q um)], []⟩ (.cons (cimpl_TermOk h7) (.cons (congrArg AV.bool h8) .nil)) ?_
          refine Wc.cT rfl ?_
          exact (onone h4).elim
        · obtain ⟨zw, h9, h4⟩ := obind h4
          rcases oif h4 with ⟨h10, h4⟩ | ⟨h10, h4⟩
          · refine Wc.r2 [{}, {}, { r := some (.v (.bool u3s) []) }, {}, { re := some (.bool false) }, {}, {}, { r := some (.v (.bool zw) []) }, {}, {}, { re := some (.bool true) }] ⟨[tP 1 1, tV 6 (.sl (List.map GClause.c um.gClauses)), tI 7 (um.gClauses.length : Int), tI 8 un, tB 27 true], [bC 1 (GDb.q um)], []⟩ (.cons (cimpl_TermOk h7) (.cons (congrArg AV.bool h8) (.cons (cimpl_TermOk h9) (.cons (congrArg AV.bool h10) .nil)))) ?_
            refine Wc.cT rfl ?_
            exact (onone h4).elim
          · obtain ⟨u0l, h11, h4⟩ := obind h4
            refine Wc.r2 [{}, {}, { r := some (.v (.bool u3s) []) }, {}, { re := some (.bool false) }, {}, {}, { r := some (.v (.bool zw) []) }, {}, {}, { re := some (.bool false) }, {}, {}, { r := some (.v (.bool u0l) []) }] ⟨[tP 1 1, tV 6 (.sl (List.map GClause.c um.gClauses)), tI 7 (um.gClauses.length : Int), tI 8 un, tB 27 (!u0l)], [bC 1 (GDb.q um)], []⟩ (.cons (cimpl_TermOk h7) (.cons (congrArg AV.bool h8) (.cons (cimpl_TermOk h9) (.cons (congrArg AV.bool h10) (.cons (cimpl_headOk h11) .nil))))) ?_
            rcases oif h4 with ⟨h12, h4⟩ | ⟨h12, h4⟩
            · refine Wc.cT h12 ?_
              exact (onone h4).elim
            · refine Wc.cF h12 ?_
              refine Wc.fx [] ⟨[tP 1 1, tV 6 (.sl (List.map GClause.c um.gClauses)), tI 7 (um.gClauses.length : Int), tI 8 un], [bC 1 (GDb.q um)], []⟩ ?_
              refine Wc.skip ?_
              refine Wc.r0 ⟨[tP 1 1, tV 6 (.sl (List.map GClause.c um.gClauses)), tI 7 (um.gClauses.length : Int), tI 8 (wr.i64 (un + 1))], [bC 1 (GDb.q um)], []⟩ ?_
              exact ⟨_, Nat.lt_succ_self _, _, rfl, h4⟩
      · refine Wc.cF h5 ?_
        refine Wc.fx [] ⟨[tP 1 1], [bC 1 (GDb.q um)], []⟩ ?_
        refine Wc.exit ?_
        obtain rfl := Option.some.inj h4
        exact ⟨rfl, rfl⟩
  · rintro st ⟨rfl, rfl⟩
    apply Wc.seq
    rcases oif h with ⟨h13, h⟩ | ⟨h13, h⟩
    · refine Wc.r2 [{}, {}, { v := some (aI (um.gClauses.length : Int)) }, {}, { re := some (.bool true) }, {}, {}, { v := some (aI (um.gOpen.length : Int)) }] ⟨[tB 2 (decide ((um.gOpen.length : Int) ≤ 40))], [], []⟩ (.cons (len_obl GClause.c um.gClauses) (.cons (congrArg AV.bool h13) (.cons (len_obl cS um.gOpen) .nil))) ?_
      obtain rfl := Option.some.inj h; exact Wc.ret dn
    · refine Wc.r2 [{}, {}, { v := some (aI (um.gClauses.length : Int)) }, {}, { re := some (.bool false) }] ⟨[tB 2 false], [], []⟩ (.cons (len_obl GClause.c um.gClauses) (.cons (congrArg AV.bool h13) .nil)) ?_
      obtain rfl := Option.some.inj h; exact Wc.ret dn

def pimpl_Expanded (k : Nat) (u38 : GDb) (u1h : GTerm) : Option (GTerm × Bool) :=
  (pimpl_copyTerm k u1h).bind fun v8 =>
  (pimpl_ClausesOf k u38 (bs [101, 120, 112, 97, 110, 100, 47, 50])).bind fun u1i =>
  if (decide ((u1i.length : Int) > 0)) = true then
    none
  else
    (pimpl_TermOk k v8).bind fun u4f =>
    some (v8, u4f)
theorem cimpl_Expanded {k : Nat} {u38 : GDb} {u1h : GTerm} {r : GTerm × Bool} (h : pimpl_Expanded k u38 u1h = some r) : FnO Tryz.prog 62 [.v (.agg (GDb.q u38)) [], .v (.agg (GTerm.q u1h)) []] (.v (.tup [.agg (GTerm.q r.1), .bool r.2]) []) [] := by
  refine FnO.o2 Tryz.func62 (rfl : Tryz.f62.body = some _) ?_
  intro w0 X0 Fin pv0 pb gt
  unfold pimpl_Expanded at h
  apply Wc.seq
  refine Wc.r0 ⟨[tP 2 2, tP 3 3, tP 4 4], [bC 2 (GDb.q u38), bC 3 (GTerm.q u1h), (4, .cells GTerm.z [(3, .app 41)])], []⟩ ?_
  apply Wc.seq
  obtain ⟨v8, h1, h⟩ := obind h
  refine Wc.r2 [{}, { r := some (.v (.agg (GTerm.q v8)) [(3, .app 41)]) }, {}, { tk := [9] }] ⟨[tP 2 2, tP 4 4, tP 6 6], [bC 2 (GDb.q u38), (4, .cells GTerm.z [(3, .app 41)]), (6, .cells (GTerm.q v8) [(3, .app 41)])], []⟩ (.cons (cimpl_copyTerm h1) .nil) ?_
  apply Wc.seq
  apply Wc.seq
  obtain ⟨u1i, h2, h⟩ := obind h
  refine Wc.r2 [{}, { r := some (.v (.sl (List.map GClause.c u1i)) [(0, .app 43)]) }, { v := some (aI (u1i.length : Int)) }] ⟨[tP 4 4, tP 6 6, tB 13 (decide ((u1i.length : Int) > 0))], [(4, .cells GTerm.z [(3, .app 41)]), (6, .cells (GTerm.q v8) [(3, .app 41)])], []⟩ (.cons (cimpl_ClausesOf h2) (.cons (len_obl GClause.c u1i) .nil)) ?_
  rcases oif h with ⟨h3, h⟩ | ⟨h3, h⟩
  · refine Wc.cT h3 ?_
    exact (onone h).elim
  · refine Wc.cF h3 ?_
    refine Wc.fx [] ⟨[tP 4 4, tP 6 6], [(4, .cells GTerm.z [(3, .app 41)]), (6, .cells (GTerm.q v8) [(3, .app 41)])], []⟩ ?_
    refine Wc.skip ?_
    apply Wc.seq
    refine Wc.fx [.un (.b 4 3), .un (.b 6 3)] ⟨[tP 4 4, tP 6 6], [bC 4 GTerm.z, bC 6 (GTerm.q v8)], []⟩ ?_
    obtain ⟨u4f, h4, h⟩ := obind h
    refine Wc.draw hmix [{}, {}, { r := some (.v (.bool u4f) []) }] [] [4, 5] [4] [] ⟨[tP 4 4, tB 5 u4f], [bC 4 (GTerm.q v8)], []⟩ _ (by kernel_rfl) (fun X => by kernel_rfl) (.cons (cimpl_TermOk h4) .nil) ?_
    obtain rfl := Option.some.inj h; exact Wc.ret dn

def pimpl_ClauseOf (k : Nat) (u8 : GTerm) (u4 : ByteArray) : Option (GClause × Bool) :=
  (pimpl_TermOk k u8).bind fun u03 =>
  if (!u03) = true then
    none
  else
    (pimpl_atom k (bs [116, 114, 117, 101])).bind fun u3 =>
    (pimpl_isStruct k u8 (bs [58, 45]) 2).bind fun u01 =>
    if u01 = true then
      none
    else
      (pimpl_headOk k u8).bind fun u0i =>
      if (!u0i) = true then
        none
      else
        (pimpl_TermOk k u3).bind fun u0n =>
        if (!u0n) = true then
          none
        else
          (pimpl_copyClause k (GClause.mk u8 u3 u4)).bind fun u4g =>
          some (u4g, true)
theorem cimpl_ClauseOf {k : Nat} {u8 : GTerm} {u4 : ByteArray} {r : GClause × Bool} (h : pimpl_ClauseOf k u8 u4 = some r) : FnO Tryz.prog 64 [.v (.agg (GTerm.q u8)) [], .v (.str u4) []] (.v (.tup [.agg (GClause.q r.1), .bool r.2]) [(3, .app 41), (7, .app 41)]) [] := by
  refine FnO.o2 Tryz.func64 (rfl : Tryz.f64.body = some _) ?_
  intro w0 X0 Fin pv0 pb gt
  unfold pimpl_ClauseOf at h
  apply Wc.seq
  refine Wc.r0 ⟨[tS 1 u4, tP 2 2, tP 4 4], [bC 2 (GTerm.q u8), (4, .cells GClause.z [(3, .app 41), (7, .app 41)])], []⟩ ?_
  apply Wc.seq
  apply Wc.seq
  obtain ⟨u03, h13, h⟩ := obind h
  refine Wc.r2 [{}, { r := some (.v (.bool u03) []) }] ⟨[tS 1 u4, tP 2 2, tP 4 4, tB 9 (!u03)], [bC 2 (GTerm.q u8), (4, .cells GClause.z [(3, .app 41), (7, .app 41)])], []⟩ (.cons (cimpl_TermOk h13) .nil) ?_
  rcases oif h with ⟨h14, h⟩ | ⟨h14, h⟩
  · refine Wc.cT h14 ?_
    exact (onone h).elim
  · refine Wc.cF h14 ?_
    refine Wc.fx [] ⟨[tS 1 u4, tP 2 2, tP 4 4], [bC 2 (GTerm.q u8), (4, .cells GClause.z [(3, .app 41), (7, .app 41)])], []⟩ ?_
    refine Wc.skip ?_
    apply Wc.seq
    obtain ⟨u3, h15, h⟩ := obind h
    refine Wc.draw hmix [{}, { r := some (.v (.agg (GTerm.q u3)) [(3, .app 41)]) }, {}, { tk := [12] }, {}, { tk := [14] }] [] [2, 4, 6] [2, 4, 6] [] ⟨[tP 2 2, tP 4 4, tP 6 6], [bC 2 (GTerm.q u8), (4, .cells GClause.z [(3, .app 41), (7, .app 41)]), (6, .cells [aI u8.gKind, .str u8.gName, aI u8.gNum, .sl (List.map GTerm.c u8.gKids), aI u3.gKind, .str u3.gName, aI u3.gNum, .sl (List.map GTerm.c u3.gKids), .str u4] [(7, .app 41)])], []⟩ _ (by kernel_rfl) (fun X => by kernel_rfl) (.cons (cimpl_atom h15) .nil) ?_
    apply Wc.seq
    apply Wc.seq
    obtain ⟨u01, h16, h⟩ := obind h
    refine Wc.r2 [{}, { r := some (.v (.bool u01) []) }] ⟨[tP 4 4, tP 6 6, tB 16 u01], [(4, .cells GClause.z [(3, .app 41), (7, .app 41)]), (6, .cells [aI u8.gKind, .str u8.gName, aI u8.gNum, .sl (List.map GTerm.c u8.gKids), aI u3.gKind, .str u3.gName, aI u3.gNum, .sl (List.map GTerm.c u3.gKids), .str u4] [(7, .app 41)])], []⟩ (.cons (cimpl_isStruct h16) .nil) ?_
    rcases oif h with ⟨h17, h⟩ | ⟨h17, h⟩
    · refine Wc.cT h17 ?_
      exact (onone h).elim
    · refine Wc.cF h17 ?_
      refine Wc.fx [] ⟨[tP 4 4, tP 6 6], [(4, .cells GClause.z [(3, .app 41), (7, .app 41)]), (6, .cells [aI u8.gKind, .str u8.gName, aI u8.gNum, .sl (List.map GTerm.c u8.gKids), aI u3.gKind, .str u3.gName, aI u3.gNum, .sl (List.map GTerm.c u3.gKids), .str u4] [(7, .app 41)])], []⟩ ?_
      refine Wc.skip ?_
      apply Wc.seq
      apply Wc.seq
      obtain ⟨u0i, h18, h⟩ := obind h
      rcases oif h with ⟨h19, h⟩ | ⟨h19, h⟩
      · refine Wc.r2 [{}, {}, { r := some (.v (.bool u0i) []) }, {}, { re := some (.bool true) }] ⟨[tP 4 4, tP 6 6, tB 45 true], [(4, .cells GClause.z [(3, .app 41), (7, .app 41)]), (6, .cells [aI u8.gKind, .str u8.gName, aI u8.gNum, .sl (List.map GTerm.c u8.gKids), aI u3.gKind, .str u3.gName, aI u3.gNum, .sl (List.map GTerm.c u3.gKids), .str u4] [(7, .app 41)])], []⟩ (.cons (cimpl_headOk h18) (.cons (congrArg AV.bool h19) .nil)) ?_
        refine Wc.cT rfl ?_
        exact (onone h).elim
      · obtain ⟨u0n, h20, h⟩ := obind h
        refine Wc.r2 [{}, {}, { r := some (.v (.bool u0i) []) }, {}, { re := some (.bool false) }, {}, {}, { r := some (.v (.bool u0n) []) }] ⟨[tP 4 4, tP 6 6, tB 45 (!u0n)], [(4, .cells GClause.z [(3, .app 41), (7, .app 41)]), (6, .cells [aI u8.gKind, .str u8.gName, aI u8.gNum, .sl (List.map GTerm.c u8.gKids), aI u3.gKind, .str u3.gName, aI u3.gNum, .sl (List.map GTerm.c u3.gKids), .str u4] [(7, .app 41)])], []⟩ (.cons (cimpl_headOk h18) (.cons (congrArg AV.bool h19) (.cons (cimpl_TermOk h20) .nil))) ?_
        rcases oif h with ⟨h21, h⟩ | ⟨h21, h⟩
        · refine Wc.cT h21 ?_
          exact (onone h).elim
        · refine Wc.cF h21 ?_
          refine Wc.fx [] ⟨[tP 4 4, tP 6 6], [(4, .cells GClause.z [(3, .app 41), (7, .app 41)]), (6, .cells [aI u8.gKind, .str u8.gName, aI u8.gNum, .sl (List.map GTerm.c u8.gKids), aI u3.gKind, .str u3.gName, aI u3.gNum, .sl (List.map GTerm.c u3.gKids), .str u4] [(7, .app 41)])], []⟩ ?_
          refine Wc.skip ?_
          apply Wc.seq
          obtain ⟨u4g, h22, h⟩ := obind h
          refine Wc.r2 [{}, { r := some (.v (.agg (GClause.q u4g)) [(3, .app 41), (7, .app 41)]) }, { tk := [48] }] ⟨[tP 4 4, tB 5 true], [(4, .cells (GClause.q u4g) [(3, .app 41), (7, .app 41)])], []⟩ (.cons (cimpl_copyClause h22) .nil) ?_
          obtain rfl := Option.some.inj h; exact Wc.ret dn

def pimpl_Added (k : Nat) (u3t : GDb) (u39 : GClause) : Option (GDb × Bool) :=
  (pimpl_copyDb k u3t).bind fun ze =>
  (pimpl_copyClause k u39).bind fun z5 =>
  if ze.gClauses.length + [z5].length ≤ 1073741824 then
    (pimpl_DbOk k (GDb.mk (ze.gClauses ++ [z5]) ze.gOpen)).bind fun u03 =>
    if (!u03) = true then
      none
    else
      some (GDb.mk (ze.gClauses ++ [z5]) ze.gOpen, true)
  else none
theorem cimpl_Added {k : Nat} {u3t : GDb} {u39 : GClause} {r : GDb × Bool} (h : pimpl_Added k u3t u39 = some r) : FnO Tryz.prog 65 [.v (.agg (GDb.q u3t)) [], .v (.agg (GClause.q u39)) []] (.v (.tup [.agg (GDb.q r.1), .bool r.2]) [(0, .app 43), (1, .app 9)]) [] := by
  refine FnO.o2 Tryz.func65 (rfl : Tryz.f65.body = some _) ?_
  intro w0 X0 Fin pv0 pb gt
  unfold pimpl_Added at h
  apply Wc.seq
  refine Wc.r0 ⟨[tP 2 2, tP 3 3, tP 4 4], [bC 2 (GDb.q u3t), bC 3 (GClause.q u39), (4, .cells GDb.z [(0, .app 43), (1, .app 9)])], []⟩ ?_
  apply Wc.seq
  obtain ⟨ze, h9, h⟩ := obind h
  refine Wc.r2 [{}, { r := some (.v (.agg (GDb.q ze)) [(0, .app 43), (1, .app 9)]) }, {}, { tk := [8] }] ⟨[tP 3 3, tP 4 4, tP 6 6], [bC 3 (GClause.q u39), (4, .cells GDb.z [(0, .app 43), (1, .app 9)]), (6, .cells (GDb.q ze) [(0, .app 43), (1, .app 9)])], []⟩ (.cons (cimpl_copyDb h9) .nil) ?_
  apply Wc.seq
  obtain ⟨z5, h10, h⟩ := obind h
  obtain ⟨h11, h⟩ := oguard h
  refine Wc.draw hmix [{}, { md := 1 }, {}, { r := some (.v (.agg (GClause.q z5)) [(3, .app 41), (7, .app 41)]) }, { c := some (List.map GClause.c [z5]) }, { c := some (List.map GClause.c (ze.gClauses ++ [z5])), tk := [10] }, {}, { tk := [14] }] [.so 6] [4, 6] [4, 6] [] ⟨[tP 4 4, tP 6 6], [(4, .cells GDb.z [(0, .app 43), (1, .app 9)]), (6, .cells [.sl (List.map GClause.c (ze.gClauses ++ [z5])), .sl (List.map cS ze.gOpen)] [(0, .app 43), (1, .app 9)])], []⟩ _ (by kernel_rfl) (fun X => by kernel_rfl) (.cons (cimpl_copyClause h10) (.cons (cl_cons (c := GClause.c) (x := z5) (GClause.c_eq z5) (cl_nil GClause.c)) (.cons (app_re2 GClause.c ze.gClauses [z5]) (.cons (app_leaf (c := GClause.c) (ys := [z5]) GClause.c_leaf) (.cons (app_obl2 (c := GClause.c) (xs := ze.gClauses) (ys := [z5]) GClause.c_len h11) .nil))))) ?_
  apply Wc.seq
  apply Wc.seq
  obtain ⟨u03, h12, h⟩ := obind h
  refine Wc.r2 [{}, { r := some (.v (.bool u03) []) }] ⟨[tP 4 4, tP 6 6, tB 18 (!u03)], [(4, .cells GDb.z [(0, .app 43), (1, .app 9)]), (6, .cells [.sl (List.map GClause.c (ze.gClauses ++ [z5])), .sl (List.map cS ze.gOpen)] [(0, .app 43), (1, .app 9)])], []⟩ (.cons (cimpl_DbOk h12) .nil) ?_
  rcases oif h with ⟨h13, h⟩ | ⟨h13, h⟩
  · refine Wc.cT h13 ?_
    exact (onone h).elim
  · refine Wc.cF h13 ?_
    refine Wc.fx [] ⟨[tP 4 4, tP 6 6], [(4, .cells GDb.z [(0, .app 43), (1, .app 9)]), (6, .cells [.sl (List.map GClause.c (ze.gClauses ++ [z5])), .sl (List.map cS ze.gOpen)] [(0, .app 43), (1, .app 9)])], []⟩ ?_
    refine Wc.skip ?_
    apply Wc.seq
    refine Wc.r1 [{ md := 1 }, { tk := [21] }] ⟨[tP 4 4, tB 5 true], [(4, .cells [.sl (List.map GClause.c (ze.gClauses ++ [z5])), .sl (List.map cS ze.gOpen)] [(0, .app 43), (1, .app 9)])], []⟩ ?_
    obtain rfl := Option.some.inj h; exact Wc.ret dn

def pstrings_IndexByte (k : Nat) (s : ByteArray) (c : Int) : Option Int :=
  some (Lib.indexByte s.data.toList c.toNat.toUInt8)
theorem cstrings_IndexByte {k : Nat} {s : ByteArray} {c r : Int} (h : pstrings_IndexByte k s c = some r) : FnO Tryz.prog 76 [.v (.str s) [], .v (.int .u8 c) []] (.v (aI r) []) [] := indexByte_O Tryz.strings_IndexByte h

def pimpl_SymbolByte (k : Nat) (uc : Int) : Option Bool :=
  (pstrings_IndexByte k (bs [43, 45, 42, 47, 92, 94, 60, 62, 61, 126, 58, 46, 63, 64, 35, 38, 36]) uc).bind fun uf =>
  some (decide (uf ≥ 0))
theorem cimpl_SymbolByte {k : Nat} {uc : Int} {r : Bool} (h : pimpl_SymbolByte k uc = some r) : FnO Tryz.prog 75 [.v (.int .u8 uc) []] (.v (.bool r) []) [] := by
  refine FnO.o2 Tryz.func75 (rfl : Tryz.f75.body = some _) ?_
  intro w0 X0 Fin pv0 pb gt
  unfold pimpl_SymbolByte at h
  apply Wc.seq
  refine Wc.r0 ⟨[tV 0 (.int .u8 uc)], [], []⟩ ?_
  apply Wc.seq
  obtain ⟨uf, h12, h⟩ := obind h
  refine Wc.r2 [{}, { r := some (.v (aI uf) []) }] ⟨[tB 2 (decide (uf ≥ 0))], [], []⟩ (.cons (cstrings_IndexByte h12) .nil) ?_
  obtain rfl := Option.some.inj h; exact Wc.ret dn

def pimpl_endsHere_J1 (k : Nat) (u6 : Int) (u4 : ByteArray) : Option Bool :=
  if ((wr.i64 (u6 + 1)) == (u4.size : Int)) = true then
    some true
  else
    if 0 ≤ wr.i64 (u6 + 1) ∧ (wr.i64 (u6 + 1)).toNat < u4.size then
      (pstrings_IndexByte k (bs [32, 9, 10, 37]) (bt u4 (wr.i64 (u6 + 1)))).bind fun uc =>
      some (decide (uc ≥ 0))
    else none
def pimpl_endsHere (k : Nat) (u4 : ByteArray) (u6 : Int) : Option Bool :=
  if 0 ≤ u6 ∧ (u6).toNat < u4.size then
    if ((bt u4 u6) != 46) = true then
      some false
    else
      if (decide (u6 > 0)) = true then
        if 0 ≤ wr.i64 (u6 - 1) ∧ (wr.i64 (u6 - 1)).toNat < u4.size then
          (pimpl_SymbolByte k (bt u4 (wr.i64 (u6 - 1)))).bind fun u01 =>
          if u01 = true then
            some false
          else
            pimpl_endsHere_J1 k u6 u4
        else none
      else
        pimpl_endsHere_J1 k u6 u4
  else none
theorem cimpl_endsHere {k : Nat} {u4 : ByteArray} {u6 : Int} {r : Bool} (h : pimpl_endsHere k u4 u6 = some r) : FnO Tryz.prog 70 [.v (.str u4) [], .v (aI u6) []] (.v (.bool r) []) [] := by
  refine FnO.o2 Tryz.func70 (rfl : Tryz.f70.body = some _) ?_
  intro w0 X0 Fin pv0 pb gt
  unfold pimpl_endsHere at h
  apply Wc.seq
  refine Wc.r0 ⟨[tS 0 u4, tI 1 u6], [], []⟩ ?_
  refine Wc.seqJ (fun st => st = ⟨[tS 0 u4, tI 1 u6], [], []⟩ ∧ pimpl_endsHere_J1 k u6 u4 = some r) ?_ ?_
  · apply Wc.seq
    obtain ⟨h11, h⟩ := oguard h
    rcases oif h with ⟨h12, h⟩ | ⟨h12, h⟩
    · refine Wc.r2 [{}, {}, {}, {}, { re := some (.bool true) }] ⟨[tS 0 u4, tI 1 u6, tB 19 true], [], []⟩ (.cons h11 (.cons (congrArg AV.bool h12) .nil)) ?_
      refine Wc.cT rfl ?_
      apply Wc.seq
      refine Wc.r0 ⟨[tB 4 false], [], []⟩ ?_
      obtain rfl := Option.some.inj h; exact Wc.ret dn
    · rcases oif h with ⟨h13, h⟩ | ⟨h13, h⟩
      · obtain ⟨h14, h⟩ := oguard h
        obtain ⟨u01, h15, h⟩ := obind h
        refine Wc.r2 [{}, {}, {}, {}, { re := some (.bool false) }, {}, {}, { re := some (.bool true) }, {}, {}, {}, {}, { r := some (.v (.bool u01) []) }] ⟨[tS 0 u4, tI 1 u6, tB 19 u01], [], []⟩ (.cons h11 (.cons (congrArg AV.bool h12) (.cons (congrArg AV.bool h13) (.cons h14 (.cons (cimpl_SymbolByte h15) .nil))))) ?_
        rcases oif h with ⟨h16, h⟩ | ⟨h16, h⟩
        · refine Wc.cT h16 ?_
          apply Wc.seq
          refine Wc.r0 ⟨[tB 4 false], [], []⟩ ?_
          obtain rfl := Option.some.inj h; exact Wc.ret dn
        · refine Wc.cF h16 ?_
          refine Wc.fx [] ⟨[tS 0 u4, tI 1 u6], [], []⟩ ?_
          refine Wc.skip ?_
          exact ⟨rfl, h⟩
      · refine Wc.r2 [{}, {}, {}, {}, { re := some (.bool false) }, {}, {}, { re := some (.bool false) }] ⟨[tS 0 u4, tI 1 u6, tB 19 false], [], []⟩ (.cons h11 (.cons (congrArg AV.bool h12) (.cons (congrArg AV.bool h13) .nil))) ?_
        refine Wc.cF rfl ?_
        refine Wc.fx [] ⟨[tS 0 u4, tI 1 u6], [], []⟩ ?_
        refine Wc.skip ?_
        exact ⟨rfl, h⟩
  · rintro st ⟨rfl, h⟩
    apply Wc.seq
    rcases oif h with ⟨h8, h⟩ | ⟨h8, h⟩
    · refine Wc.r2 [{}, {}, {}, {}, {}, { re := some (.bool true) }] ⟨[tB 4 true], [], []⟩ (.cons (congrArg AV.bool h8) .nil) ?_
      obtain rfl := Option.some.inj h; exact Wc.ret dn
    · obtain ⟨h9, h⟩ := oguard h
      obtain ⟨uc, h10, h⟩ := obind h
      refine Wc.r2 [{}, {}, {}, {}, {}, { re := some (.bool false) }, {}, {}, {}, {}, { r := some (.v (aI uc) []) }] ⟨[tB 4 (decide (uc ≥ 0))], [], []⟩ (.cons (congrArg AV.bool h8) (.cons h9 (.cons (cstrings_IndexByte h10) .nil))) ?_
      obtain rfl := Option.some.inj h; exact Wc.ret dn

def pimpl_lower (k : Nat) (u6 : Int) : Option Bool :=
  if (decide (u6 ≥ 97)) = true then
    some (decide (u6 ≤ 122))
  else
    some false
theorem cimpl_lower {k : Nat} {u6 : Int} {r : Bool} (h : pimpl_lower k u6 = some r) : FnO Tryz.prog 71 [.v (.int .u8 u6) []] (.v (.bool r) []) [] := by
  refine FnO.o2 Tryz.func71 (rfl : Tryz.f71.body = some _) ?_
  intro w0 X0 Fin pv0 pb gt
  unfold pimpl_lower at h
  apply Wc.seq
  refine Wc.r0 ⟨[tV 0 (.int .u8 u6)], [], []⟩ ?_
  apply Wc.seq
  rcases oif h with ⟨h10, h⟩ | ⟨h10, h⟩
  · refine Wc.r2 [{}, {}, { re := some (.bool true) }] ⟨[tB 2 (decide (u6 ≤ 122))], [], []⟩ (.cons (congrArg AV.bool h10) .nil) ?_
    obtain rfl := Option.some.inj h; exact Wc.ret dn
  · refine Wc.r2 [{}, {}, { re := some (.bool false) }] ⟨[tB 2 false], [], []⟩ (.cons (congrArg AV.bool h10) .nil) ?_
    obtain rfl := Option.some.inj h; exact Wc.ret dn

def pimpl_upper (k : Nat) (uc : Int) : Option Bool :=
  if (decide (uc ≥ 65)) = true then
    some (decide (uc ≤ 90))
  else
    some false
theorem cimpl_upper {k : Nat} {uc : Int} {r : Bool} (h : pimpl_upper k uc = some r) : FnO Tryz.prog 72 [.v (.int .u8 uc) []] (.v (.bool r) []) [] := by
  refine FnO.o2 Tryz.func72 (rfl : Tryz.f72.body = some _) ?_
  intro w0 X0 Fin pv0 pb gt
  unfold pimpl_upper at h
  apply Wc.seq
  refine Wc.r0 ⟨[tV 0 (.int .u8 uc)], [], []⟩ ?_
  apply Wc.seq
  rcases oif h with ⟨h12, h⟩ | ⟨h12, h⟩
  · refine Wc.r2 [{}, {}, { re := some (.bool true) }] ⟨[tB 2 (decide (uc ≤ 90))], [], []⟩ (.cons (congrArg AV.bool h12) .nil) ?_
    obtain rfl := Option.some.inj h; exact Wc.ret dn
  · refine Wc.r2 [{}, {}, { re := some (.bool false) }] ⟨[tB 2 false], [], []⟩ (.cons (congrArg AV.bool h12) .nil) ?_
    obtain rfl := Option.some.inj h; exact Wc.ret dn

def pimpl_figure (k : Nat) (ut : Int) : Option Bool :=
  if (decide (ut ≥ 48)) = true then
    some (decide (ut ≤ 57))
  else
    some false
theorem cimpl_figure {k : Nat} {ut : Int} {r : Bool} (h : pimpl_figure k ut = some r) : FnO Tryz.prog 74 [.v (.int .u8 ut) []] (.v (.bool r) []) [] := by
  refine FnO.o2 Tryz.func74 (rfl : Tryz.f74.body = some _) ?_
  intro w0 X0 Fin pv0 pb gt
  unfold pimpl_figure at h
  apply Wc.seq
  refine Wc.r0 ⟨[tV 0 (.int .u8 ut)], [], []⟩ ?_
  apply Wc.seq
  rcases oif h with ⟨h17, h⟩ | ⟨h17, h⟩
  · refine Wc.r2 [{}, {}, { re := some (.bool true) }] ⟨[tB 2 (decide (ut ≤ 57))], [], []⟩ (.cons (congrArg AV.bool h17) .nil) ?_
    obtain rfl := Option.some.inj h; exact Wc.ret dn
  · refine Wc.r2 [{}, {}, { re := some (.bool false) }] ⟨[tB 2 false], [], []⟩ (.cons (congrArg AV.bool h17) .nil) ?_
    obtain rfl := Option.some.inj h; exact Wc.ret dn

def pimpl_wordByte (k : Nat) (vt : Int) : Option Bool :=
  (pimpl_lower k vt).bind fun z8 =>
  if z8 = true then
    some true
  else
    (pimpl_upper k vt).bind fun zt =>
    if zt = true then
      some true
    else
      (pimpl_figure k vt).bind fun u06 =>
      if u06 = true then
        some true
      else
        some (vt == 95)
theorem cimpl_wordByte {k : Nat} {vt : Int} {r : Bool} (h : pimpl_wordByte k vt = some r) : FnO Tryz.prog 73 [.v (.int .u8 vt) []] (.v (.bool r) []) [] := by
  refine FnO.o2 Tryz.func73 (rfl : Tryz.f73.body = some _) ?_
  intro w0 X0 Fin pv0 pb gt
  unfold pimpl_wordByte at h
  apply Wc.seq
  refine Wc.r0 ⟨[tV 0 (.int .u8 vt)], [], []⟩ ?_
  apply Wc.seq
  obtain ⟨z8, h13, h⟩ := obind h
  rcases oif h with ⟨h14, h⟩ | ⟨h14, h⟩
  · refine Wc.r2 [{}, { r := some (.v (.bool z8) []) }, { re := some (.bool true) }] ⟨[tB 2 true], [], []⟩ (.cons (cimpl_lower h13) (.cons (congrArg AV.bool h14) .nil)) ?_
    obtain rfl := Option.some.inj h; exact Wc.ret dn
  · obtain ⟨zt, h15, h⟩ := obind h
    rcases oif h with ⟨h16, h⟩ | ⟨h16, h⟩
    · refine Wc.r2 [{}, { r := some (.v (.bool z8) []) }, { re := some (.bool false) }, {}, { r := some (.v (.bool zt) []) }, {}, { re := some (.bool true) }] ⟨[tB 2 true], [], []⟩ (.cons (cimpl_lower h13) (.cons (congrArg AV.bool h14) (.cons (cimpl_upper h15) (.cons (congrArg AV.bool h16) .nil)))) ?_
      obtain rfl := Option.some.inj h; exact Wc.ret dn
    · obtain ⟨u06, h17, h⟩ := obind h
      rcases oif h with ⟨h18, h⟩ | ⟨h18, h⟩
      · refine Wc.r2 [{}, { r := some (.v (.bool z8) []) }, { re := some (.bool false) }, {}, { r := some (.v (.bool zt) []) }, {}, { re := some (.bool false) }, {}, { r := some (.v (.bool u06) []) }, {}, { re := some (.bool true) }] ⟨[tB 2 true], [], []⟩ (.cons (cimpl_lower h13) (.cons (congrArg AV.bool h14) (.cons (cimpl_upper h15) (.cons (congrArg AV.bool h16) (.cons (cimpl_figure h17) (.cons (congrArg AV.bool h18) .nil)))))) ?_
        obtain rfl := Option.some.inj h; exact Wc.ret dn
      · refine Wc.r2 [{}, { r := some (.v (.bool z8) []) }, { re := some (.bool false) }, {}, { r := some (.v (.bool zt) []) }, {}, { re := some (.bool false) }, {}, { r := some (.v (.bool u06) []) }, {}, { re := some (.bool false) }] ⟨[tB 2 (vt == 95)], [], []⟩ (.cons (cimpl_lower h13) (.cons (congrArg AV.bool h14) (.cons (cimpl_upper h15) (.cons (congrArg AV.bool h16) (.cons (cimpl_figure h17) (.cons (congrArg AV.bool h18) .nil)))))) ?_
        obtain rfl := Option.some.inj h; exact Wc.ret dn

def pimpl_run_on2_pimpl_wordByte_L1 (k : Nat) (ud : ByteArray) : Nat → Int → Option (Out Int Int)
  | 0, _ => none
  | m + 1, vd =>
    if (decide (vd < (ud.size : Int))) = true then
      if 0 ≤ vd ∧ (vd).toNat < ud.size then
        (pimpl_wordByte k (bt ud vd)).bind fun z8 =>
        if z8 = true then
          pimpl_run_on2_pimpl_wordByte_L1 k ud m (wr.i64 (vd + 1))
        else
          some (.done vd)
      else none
    else
      some (.done vd)
def pimpl_run_on2_pimpl_wordByte (k : Nat) (ud : ByteArray) (uf : Int) : Option Int :=
  (pimpl_run_on2_pimpl_wordByte_L1 k ud k uf).bind fun out1 => match out1 with
  | .ret r => some r
  | .done vt =>
    some vt
theorem cimpl_run_on2_pimpl_wordByte {k : Nat} {ud : ByteArray} {uf : Int} {r : Int} (h : pimpl_run_on2_pimpl_wordByte k ud uf = some r) : FnO Tryz.prog 49 [.v (.str ud) [], .v (aI uf) [], .v (.func 73 []) []] (.v (aI r) []) [] := by
  refine FnO.o2 Tryz.func49 (rfl : Tryz.f49.body = some _) ?_
  intro w0 X0 Fin pv0 pb gt
  unfold pimpl_run_on2_pimpl_wordByte at h
  apply Wc.seq
  refine Wc.r0 ⟨[tS 0 ud, tI 1 uf, tV 2 (.func 73 [])], [], []⟩ ?_
  obtain ⟨out1, h11, h⟩ := obind h
  refine Wc.seqJ (fun st => ∃ (vt : Int), out1 = .done vt ∧ st = ⟨[tI 1 vt], [], []⟩) ?_ ?_
  · refine Wc.block ?_
    refine Wc.loop (fun m st => ∃ (vd : Int), st = ⟨[tS 0 ud, tI 1 vd, tV 2 (.func 73 [])], [], []⟩ ∧ pimpl_run_on2_pimpl_wordByte_L1 k ud m vd = some out1) ?_ k ⟨_, rfl, h11⟩
    rintro m st ⟨vd, rfl, h11⟩
    cases m with
    | zero => exact (onone h11).elim
    | succ m =>
      apply Wc.seq
      apply Wc.seq
      rcases oif h11 with ⟨h12, h11⟩ | ⟨h12, h11⟩
      · obtain ⟨h13, h11⟩ := oguard h11
        obtain ⟨z8, h14, h11⟩ := obind h11
        refine Wc.r2 [{}, {}, {}, {}, { re := some (.bool true) }, {}, {}, {}, {}, { r := some (.v (.bool z8) []) }] ⟨[tS 0 ud, tI 1 vd, tV 2 (.func 73 []), tB 17 z8], [], []⟩ (.cons (congrArg AV.bool h12) (.cons h13 (.cons (cimpl_wordByte h14) .nil))) ?_
        rcases oif h11 with ⟨h15, h11⟩ | ⟨h15, h11⟩
        · refine Wc.cT h15 ?_
          refine Wc.fx [] ⟨[tS 0 ud, tI 1 vd, tV 2 (.func 73 [])], [], []⟩ ?_
          refine Wc.skip ?_
          refine Wc.block ?_
          refine Wc.r0 ⟨[tS 0 ud, tI 1 (wr.i64 (vd + 1)), tV 2 (.func 73 [])], [], []⟩ ?_
          exact ⟨_, Nat.lt_succ_self _, _, rfl, h11⟩
        · refine Wc.cF h15 ?_
          refine Wc.fx [] ⟨[tI 1 vd], [], []⟩ ?_
          refine Wc.exit ?_
          obtain rfl := Option.some.inj h11
          exact ⟨_, rfl, rfl⟩
      · refine Wc.r2 [{}, {}, {}, {}, { re := some (.bool false) }] ⟨[tS 0 ud, tI 1 vd, tV 2 (.func 73 []), tB 17 false], [], []⟩ (.cons (congrArg AV.bool h12) .nil) ?_
        refine Wc.cF rfl ?_
        refine Wc.fx [] ⟨[tI 1 vd], [], []⟩ ?_
        refine Wc.exit ?_
        obtain rfl := Option.some.inj h11
        exact ⟨_, rfl, rfl⟩
  · rintro st ⟨vt, rfl, rfl⟩
    apply Wc.seq
    refine Wc.r0 ⟨[tI 6 vt], [], []⟩ ?_
    obtain rfl := Option.some.inj h; exact Wc.ret dn

def pimpl_run_on2_pimpl_figure_L1 (k : Nat) (zo : ByteArray) : Nat → Int → Option (Out Int Int)
  | 0, _ => none
  | m + 1, ue =>
    if (decide (ue < (zo.size : Int))) = true then
      if 0 ≤ ue ∧ (ue).toNat < zo.size then
        (pimpl_figure k (bt zo ue)).bind fun u26 =>
        if u26 = true then
          pimpl_run_on2_pimpl_figure_L1 k zo m (wr.i64 (ue + 1))
        else
          some (.done ue)
      else none
    else
      some (.done ue)
def pimpl_run_on2_pimpl_figure (k : Nat) (zo : ByteArray) (u3u : Int) : Option Int :=
  (pimpl_run_on2_pimpl_figure_L1 k zo k u3u).bind fun out1 => match out1 with
  | .ret r => some r
  | .done ut =>
    some ut
theorem cimpl_run_on2_pimpl_figure {k : Nat} {zo : ByteArray} {u3u : Int} {r : Int} (h : pimpl_run_on2_pimpl_figure k zo u3u = some r) : FnO Tryz.prog 49 [.v (.str zo) [], .v (aI u3u) [], .v (.func 74 []) []] (.v (aI r) []) [] := by
  refine FnO.o2 Tryz.func49 (rfl : Tryz.f49.body = some _) ?_
  intro w0 X0 Fin pv0 pb gt
  unfold pimpl_run_on2_pimpl_figure at h
  apply Wc.seq
  refine Wc.r0 ⟨[tS 0 zo, tI 1 u3u, tV 2 (.func 74 [])], [], []⟩ ?_
  obtain ⟨out1, h16, h⟩ := obind h
  refine Wc.seqJ (fun st => ∃ (ut : Int), out1 = .done ut ∧ st = ⟨[tI 1 ut], [], []⟩) ?_ ?_
  · refine Wc.block ?_
    refine Wc.loop (fun m st => ∃ (ue : Int), st = ⟨[tS 0 zo, tI 1 ue, tV 2 (.func 74 [])], [], []⟩ ∧ pimpl_run_on2_pimpl_figure_L1 k zo m ue = some out1) ?_ k ⟨_, rfl, h16⟩
    rintro m st ⟨ue, rfl, h16⟩
    cases m with
    | zero => exact (onone h16).elim
    | succ m =>
      apply Wc.seq
      apply Wc.seq
      rcases oif h16 with ⟨h17, h16⟩ | ⟨h17, h16⟩
      · obtain ⟨h18, h16⟩ := oguard h16
        obtain ⟨u26, h19, h16⟩ := obind h16
        refine Wc.r2 [{}, {}, {}, {}, { re := some (.bool true) }, {}, {}, {}, {}, { r := some (.v (.bool u26) []) }] ⟨[tS 0 zo, tI 1 ue, tV 2 (.func 74 []), tB 17 u26], [], []⟩ (.cons (congrArg AV.bool h17) (.cons h18 (.cons (cimpl_figure h19) .nil))) ?_
        rcases oif h16 with ⟨h20, h16⟩ | ⟨h20, h16⟩
        · refine Wc.cT h20 ?_
          refine Wc.fx [] ⟨[tS 0 zo, tI 1 ue, tV 2 (.func 74 [])], [], []⟩ ?_
          refine Wc.skip ?_
          refine Wc.block ?_
          refine Wc.r0 ⟨[tS 0 zo, tI 1 (wr.i64 (ue + 1)), tV 2 (.func 74 [])], [], []⟩ ?_
          exact ⟨_, Nat.lt_succ_self _, _, rfl, h16⟩
        · refine Wc.cF h20 ?_
          refine Wc.fx [] ⟨[tI 1 ue], [], []⟩ ?_
          refine Wc.exit ?_
          obtain rfl := Option.some.inj h16
          exact ⟨_, rfl, rfl⟩
      · refine Wc.r2 [{}, {}, {}, {}, { re := some (.bool false) }] ⟨[tS 0 zo, tI 1 ue, tV 2 (.func 74 []), tB 17 false], [], []⟩ (.cons (congrArg AV.bool h17) .nil) ?_
        refine Wc.cF rfl ?_
        refine Wc.fx [] ⟨[tI 1 ue], [], []⟩ ?_
        refine Wc.exit ?_
        obtain rfl := Option.some.inj h16
        exact ⟨_, rfl, rfl⟩
  · rintro st ⟨ut, rfl, rfl⟩
    apply Wc.seq
    refine Wc.r0 ⟨[tI 6 ut], [], []⟩ ?_
    obtain rfl := Option.some.inj h; exact Wc.ret dn
end Go.Proofs.YtbchncaolapbhaaGreatDoor

/- What the functions do, part 3. -/
import Derived.Test.YthemaodhckmnkaaGreatDoorFnb
set_option linter.unusedVariables false
set_option linter.unusedSimpArgs false
namespace Go.Proofs.YthemaodhckmnkaaGreatDoor
open Go.RowKit Go.Bv
def pimpl_DbOk_L1 (k : Nat) (up : GDb) : Nat → Int → Option (Out Bool Unit)
  | 0, _ => none
  | m + 1, u2c =>
    if (decide (u2c < (up.gClauses.length : Int))) = true then
      (at' up.gClauses u2c).bind fun u5m =>
      (pimpl_TermOk k u5m.gHead).bind fun uay =>
      if (!uay) = true then
        some (.ret false)
      else
        (pimpl_TermOk k u5m.gBody).bind fun udd =>
        if (!udd) = true then
          some (.ret false)
        else
          (pimpl_headOk k u5m.gHead).bind fun ude =>
          if (!ude) = true then
            some (.ret false)
          else
            pimpl_DbOk_L1 k up m (wr.i64 (u2c + 1))
    else
      some (.done ())
def pimpl_DbOk (k : Nat) (up : GDb) : Option Bool :=
  (pimpl_DbOk_L1 k up k 0).bind fun out1 => match out1 with
  | .ret r => some r
  | .done () =>
    if (decide ((up.gClauses.length : Int) ≤ 120)) = true then
      some (decide ((up.gOpen.length : Int) ≤ 40))
    else
      some false
theorem cimpl_DbOk {k : Nat} {up : GDb} {r : Bool} (h : pimpl_DbOk k up = some r) : FnO Tryz.prog 26 [.v (.agg (GDb.q up)) []] (.v (.bool r) []) [] := by
  refine FnO.o2 Tryz.func26 (rfl : Tryz.f26.body = some _) ?_
  intro w0 X0 Fin pv0 pb gt
  unfold pimpl_DbOk at h
  apply Wc.seq
  refine Wc.r0 ⟨[tP 1 1], [bC 1 (GDb.q up)], []⟩ ?_
  apply Wc.seq
  apply Wc.seq
  refine Wc.r2 [{}, {}, { v := some (aI (up.gClauses.length : Int)) }] ⟨[tP 1 1, tV 6 (.sl (List.map GClause.c up.gClauses)), tI 7 (up.gClauses.length : Int), tI 8 0], [bC 1 (GDb.q up)], []⟩ (.cons (len_obl GClause.c up.gClauses) .nil) ?_
  obtain ⟨out1, h901, h⟩ := obind h
  refine Wc.lastJ (fun st => out1 = .done () ∧ st = ⟨[tP 1 1], [bC 1 (GDb.q up)], []⟩) ?_ ?_
  · refine Wc.block ?_
    refine Wc.loop (fun m st => ∃ (u2c : Int), st = ⟨[tP 1 1, tV 6 (.sl (List.map GClause.c up.gClauses)), tI 7 (up.gClauses.length : Int), tI 8 u2c], [bC 1 (GDb.q up)], []⟩ ∧ pimpl_DbOk_L1 k up m u2c = some out1) ?_ k ⟨_, rfl, h901⟩
    rintro m st ⟨u2c, rfl, h901⟩
    cases m with
    | zero => exact (onone h901).elim
    | succ m =>
      apply Wc.seq
      refine Wc.r0 ⟨[tP 1 1, tV 6 (.sl (List.map GClause.c up.gClauses)), tI 7 (up.gClauses.length : Int), tI 8 u2c, tB 9 (decide (u2c < (up.gClauses.length : Int)))], [bC 1 (GDb.q up)], []⟩ ?_
      apply Wc.seq
      rcases oif h901 with ⟨h902, h901⟩ | ⟨h902, h901⟩
      · refine Wc.cT h902 ?_
        refine Wc.fx [] ⟨[tP 1 1, tV 6 (.sl (List.map GClause.c up.gClauses)), tI 7 (up.gClauses.length : Int), tI 8 u2c], [bC 1 (GDb.q up)], []⟩ ?_
        refine Wc.skip ?_
        apply Wc.seq
        refine Wc.block ?_
        apply Wc.seq
        obtain ⟨u5m, h903, h901⟩ := obind h901
        refine Wc.r2 [{ v := some (.vptr (GClause.q u5m)) }] ⟨[tP 1 1, tP 4 4, tV 6 (.sl (List.map GClause.c up.gClauses)), tI 7 (up.gClauses.length : Int), tI 8 u2c], [bC 1 (GDb.q up), bC 4 (GClause.q u5m)], []⟩ (.cons (at_obl (c := GClause.c) (GClause.c_eq u5m) GClause.c_len h903) (.cons (len_ok 9 (GClause.q u5m)) .nil)) ?_
        apply Wc.seq
        obtain ⟨uay, h904, h901⟩ := obind h901
        rcases oif h901 with ⟨h905, h901⟩ | ⟨h905, h901⟩
        · refine Wc.r2 [{}, {}, { r := some (.v (.bool uay) []) }, {}, { re := some (.bool true) }] ⟨[tP 1 1, tV 6 (.sl (List.map GClause.c up.gClauses)), tI 7 (up.gClauses.length : Int), tI 8 u2c, tB 27 true], [bC 1 (GDb.q up)], []⟩ (.cons (cimpl_TermOk h904) (.cons (congrArg AV.bool h905) .nil)) ?_
          refine Wc.cT rfl ?_
          apply Wc.seq
          refine Wc.r0 ⟨[tB 2 false], [], []⟩ ?_
          refine Wc.ret ?_
          obtain rfl := Option.some.inj h901
          obtain rfl := Option.some.inj h
          exact ⟨.inl rfl, by kernel_rfl, by kernel_rfl⟩
        · obtain ⟨udd, h906, h901⟩ := obind h901
          rcases oif h901 with ⟨h907, h901⟩ | ⟨h907, h901⟩
          · refine Wc.r2 [{}, {}, { r := some (.v (.bool uay) []) }, {}, { re := some (.bool false) }, {}, {}, { r := some (.v (.bool udd) []) }, {}, {}, { re := some (.bool true) }] ⟨[tP 1 1, tV 6 (.sl (List.map GClause.c up.gClauses)), tI 7 (up.gClauses.length : Int), tI 8 u2c, tB 27 true], [bC 1 (GDb.q up)], []⟩ (.cons (cimpl_TermOk h904) (.cons (congrArg AV.bool h905) (.cons (cimpl_TermOk h906) (.cons (congrArg AV.bool h907) .nil)))) ?_
            refine Wc.cT rfl ?_
            apply Wc.seq
            refine Wc.r0 ⟨[tB 2 false], [], []⟩ ?_
            refine Wc.ret ?_
            obtain rfl := Option.some.inj h901
            obtain rfl := Option.some.inj h
            exact ⟨.inl rfl, by kernel_rfl, by kernel_rfl⟩
          · obtain ⟨ude, h908, h901⟩ := obind h901
            refine Wc.r2 [{}, {}, { r := some (.v (.bool uay) []) }, {}, { re := some (.bool false) }, {}, {}, { r := some (.v (.bool udd) []) }, {}, {}, { re := some (.bool false) }, {}, {}, { r := some (.v (.bool ude) []) }] ⟨[tP 1 1, tV 6 (.sl (List.map GClause.c up.gClauses)), tI 7 (up.gClauses.length : Int), tI 8 u2c, tB 27 (!ude)], [bC 1 (GDb.q up)], []⟩ (.cons (cimpl_TermOk h904) (.cons (congrArg AV.bool h905) (.cons (cimpl_TermOk h906) (.cons (congrArg AV.bool h907) (.cons (cimpl_headOk h908) .nil))))) ?_
            rcases oif h901 with ⟨h909, h901⟩ | ⟨h909, h901⟩
            · refine Wc.cT h909 ?_
              apply Wc.seq
              refine Wc.r0 ⟨[tB 2 false], [], []⟩ ?_
              refine Wc.ret ?_
              obtain rfl := Option.some.inj h901
              obtain rfl := Option.some.inj h
              exact ⟨.inl rfl, by kernel_rfl, by kernel_rfl⟩
            · refine Wc.cF h909 ?_
              refine Wc.fx [] ⟨[tP 1 1, tV 6 (.sl (List.map GClause.c up.gClauses)), tI 7 (up.gClauses.length : Int), tI 8 u2c], [bC 1 (GDb.q up)], []⟩ ?_
              refine Wc.skip ?_
              refine Wc.r0 ⟨[tP 1 1, tV 6 (.sl (List.map GClause.c up.gClauses)), tI 7 (up.gClauses.length : Int), tI 8 (wr.i64 (u2c + 1))], [bC 1 (GDb.q up)], []⟩ ?_
              exact ⟨_, Nat.lt_succ_self _, _, rfl, h901⟩
      · refine Wc.cF h902 ?_
        refine Wc.fx [] ⟨[tP 1 1], [bC 1 (GDb.q up)], []⟩ ?_
        refine Wc.exit ?_
        obtain rfl := Option.some.inj h901
        exact ⟨rfl, rfl⟩
  · rintro st ⟨rfl, rfl⟩
    apply Wc.seq
    rcases oif h with ⟨h910, h⟩ | ⟨h910, h⟩
    · refine Wc.r2 [{}, {}, { v := some (aI (up.gClauses.length : Int)) }, {}, { re := some (.bool true) }, {}, {}, { v := some (aI (up.gOpen.length : Int)) }] ⟨[tB 2 (decide ((up.gOpen.length : Int) ≤ 40))], [], []⟩ (.cons (len_obl GClause.c up.gClauses) (.cons (congrArg AV.bool h910) (.cons (len_obl cS up.gOpen) .nil))) ?_
      obtain rfl := Option.some.inj h; exact Wc.ret dn
    · refine Wc.r2 [{}, {}, { v := some (aI (up.gClauses.length : Int)) }, {}, { re := some (.bool false) }] ⟨[tB 2 false], [], []⟩ (.cons (len_obl GClause.c up.gClauses) (.cons (congrArg AV.bool h910) .nil)) ?_
      obtain rfl := Option.some.inj h; exact Wc.ret dn

def pimpl_copyClauses_L1 (k : Nat) (z6 : List GClause) : Nat → (List GClause) → Int → Option (Out (List GClause) (List GClause))
  | 0, _, _ => none
  | m + 1, u2d, u3f =>
    if (decide (u3f < (z6.length : Int))) = true then
      (at' z6 u3f).bind fun u81 =>
      (pimpl_copyClause k u81).bind fun u3g =>
      if u2d.length + [u3g].length ≤ 1073741824 then
        pimpl_copyClauses_L1 k z6 m (u2d ++ [u3g]) (wr.i64 (u3f + 1))
      else none
    else
      some (.done u2d)
def pimpl_copyClauses (k : Nat) (z6 : List GClause) : Option (List GClause) :=
  (pimpl_copyClauses_L1 k z6 k [] 0).bind fun out1 => match out1 with
  | .ret r => some r
  | .done u82 =>
    some u82
theorem cimpl_copyClauses {k : Nat} {z6 : List GClause} {r : (List GClause)} (h : pimpl_copyClauses k z6 = some r) : FnO Tryz.prog 79 [.v (.sl (List.map GClause.c z6)) []] (.v (.sl (List.map GClause.c r)) [(0, .app 35)]) [] := by
  refine FnO.o2 Tryz.func79 (rfl : Tryz.f79.body = some _) ?_
  intro w0 X0 Fin pv0 pb gt
  unfold pimpl_copyClauses at h
  apply Wc.seq
  refine Wc.r0 ⟨[tV 0 (.sl (List.map GClause.c z6))], [], []⟩ ?_
  apply Wc.seq
  refine Wc.r0 ⟨[tV 0 (.sl (List.map GClause.c z6)), (3, (.v (.sl (List.map GClause.c [])), [(0, .app 35)]))], [], []⟩ ?_
  apply Wc.seq
  apply Wc.seq
  refine Wc.r2 [{}, { v := some (aI (z6.length : Int)) }] ⟨[(3, (.v (.sl (List.map GClause.c [])), [(0, .app 35)])), tV 6 (.sl (List.map GClause.c z6)), tI 7 (z6.length : Int), tI 8 0], [], []⟩ (.cons (len_obl GClause.c z6) .nil) ?_
  obtain ⟨out1, h916, h⟩ := obind h
  refine Wc.lastJ (fun st => ∃ (u82 : List GClause), out1 = .done u82 ∧ st = ⟨[(3, (.v (.sl (List.map GClause.c u82)), [(0, .app 35)]))], [], []⟩) ?_ ?_
  · refine Wc.block ?_
    refine Wc.loop (fun m st => ∃ (u2d : List GClause) (u3f : Int), st = ⟨[(3, (.v (.sl (List.map GClause.c u2d)), [(0, .app 35)])), tV 6 (.sl (List.map GClause.c z6)), tI 7 (z6.length : Int), tI 8 u3f], [], []⟩ ∧ pimpl_copyClauses_L1 k z6 m u2d u3f = some out1) ?_ k ⟨_, _, rfl, h916⟩
    rintro m st ⟨u2d, u3f, rfl, h916⟩
    cases m with
    | zero => exact (onone h916).elim
    | succ m =>
      apply Wc.seq
      refine Wc.r0 ⟨[(3, (.v (.sl (List.map GClause.c u2d)), [(0, .app 35)])), tV 6 (.sl (List.map GClause.c z6)), tI 7 (z6.length : Int), tI 8 u3f, tB 9 (decide (u3f < (z6.length : Int)))], [], []⟩ ?_
      apply Wc.seq
      rcases oif h916 with ⟨h917, h916⟩ | ⟨h917, h916⟩
      · refine Wc.cT h917 ?_
        refine Wc.fx [] ⟨[(3, (.v (.sl (List.map GClause.c u2d)), [(0, .app 35)])), tV 6 (.sl (List.map GClause.c z6)), tI 7 (z6.length : Int), tI 8 u3f], [], []⟩ ?_
        refine Wc.skip ?_
        apply Wc.seq
        refine Wc.block ?_
        apply Wc.seq
        obtain ⟨u81, h918, h916⟩ := obind h916
        refine Wc.r2 [{ v := some (.vptr (GClause.q u81)) }] ⟨[(3, (.v (.sl (List.map GClause.c u2d)), [(0, .app 35)])), tP 5 5, tV 6 (.sl (List.map GClause.c z6)), tI 7 (z6.length : Int), tI 8 u3f], [bC 5 (GClause.q u81)], []⟩ (.cons (at_obl (c := GClause.c) (GClause.c_eq u81) GClause.c_len h918) (.cons (len_ok 9 (GClause.q u81)) .nil)) ?_
        obtain ⟨u3g, h919, h916⟩ := obind h916
        obtain ⟨h920, h916⟩ := oguard h916
        refine Wc.r2 [{ tk := [3] }, {}, { r := some (.v (.agg (GClause.q u3g)) [(3, .app 31), (7, .app 31)]) }, { c := some (List.map GClause.c [u3g]) }, { c := some (List.map GClause.c (u2d ++ [u3g])), tk := [12] }, { tk := [16] }] ⟨[(3, (.v (.sl (List.map GClause.c (u2d ++ [u3g]))), [(0, .app 35)])), tV 6 (.sl (List.map GClause.c z6)), tI 7 (z6.length : Int), tI 8 u3f], [], []⟩ (.cons (cimpl_copyClause h919) (.cons (cl_cons (c := GClause.c) (x := u3g) (GClause.c_eq u3g) (cl_nil GClause.c)) (.cons (app_re2 GClause.c u2d [u3g]) (.cons (app_leaf (c := GClause.c) (ys := [u3g]) GClause.c_leaf) (.cons (app_obl2 (c := GClause.c) (xs := u2d) (ys := [u3g]) GClause.c_len h920) .nil))))) ?_
        refine Wc.r0 ⟨[(3, (.v (.sl (List.map GClause.c (u2d ++ [u3g]))), [(0, .app 35)])), tV 6 (.sl (List.map GClause.c z6)), tI 7 (z6.length : Int), tI 8 (wr.i64 (u3f + 1))], [], []⟩ ?_
        exact ⟨_, Nat.lt_succ_self _, _, _, rfl, h916⟩
      · refine Wc.cF h917 ?_
        refine Wc.fx [] ⟨[(3, (.v (.sl (List.map GClause.c u2d)), [(0, .app 35)]))], [], []⟩ ?_
        refine Wc.exit ?_
        obtain rfl := Option.some.inj h916
        exact ⟨_, rfl, rfl⟩
  · rintro st ⟨u82, rfl, rfl⟩
    apply Wc.seq
    refine Wc.r1 [{ tk := [3] }, { tk := [18] }] ⟨[(2, (.v (.sl (List.map GClause.c u82)), [(0, .app 35)]))], [], []⟩ ?_
    obtain rfl := Option.some.inj h; exact Wc.ret dn

def pimpl_copyDb (k : Nat) (u3v : GDb) : Option GDb :=
  (pimpl_copyClauses k u3v.gClauses).bind fun udf =>
  if ([] : List ByteArray).length + u3v.gOpen.length ≤ 1073741824 then
    some (GDb.mk udf u3v.gOpen)
  else none
theorem cimpl_copyDb {k : Nat} {u3v : GDb} {r : GDb} (h : pimpl_copyDb k u3v = some r) : FnO Tryz.prog 50 [.v (.agg (GDb.q u3v)) []] (.v (.agg (GDb.q r)) [(0, .app 35), (1, .app 9)]) [] := by
  refine FnO.o2 Tryz.func50 (rfl : Tryz.f50.body = some _) ?_
  intro w0 X0 Fin pv0 pb gt
  unfold pimpl_copyDb at h
  apply Wc.seq
  refine Wc.r0 ⟨[tP 1 1, tP 2 2], [bC 1 (GDb.q u3v), (2, .cells GDb.z [(0, .app 35), (1, .app 9)])], []⟩ ?_
  apply Wc.seq
  obtain ⟨udf, h923, h⟩ := obind h
  obtain ⟨h924, h⟩ := oguard h
  refine Wc.draw hmix [{}, {}, { r := some (.v (.sl (List.map GClause.c udf)) [(0, .app 35)]) }, {}, {}, { c := some (List.map cS u3v.gOpen) }, { tk := [5, 8] }, { tk := [9] }] [] [2] [2] [] ⟨[tP 2 2], [(2, .cells [.sl (List.map GClause.c udf), .sl (List.map cS u3v.gOpen)] [(0, .app 35), (1, .app 9)])], []⟩ _ (by kernel_rfl) (fun X => by kernel_rfl) (.cons (cimpl_copyClauses h923) (.cons (app_re0 cS u3v.gOpen) (.cons (app_leaf (c := cS) (ys := u3v.gOpen) cS_leaf) (.cons (app_obl2 (c := cS) (xs := []) (ys := u3v.gOpen) cS_len h924) .nil)))) ?_
  obtain rfl := Option.some.inj h; exact Wc.ret dn

def pimpl_Added (k : Nat) (u57 : GDb) (u83 : GClause) : Option (GDb × Bool) :=
  (pimpl_copyDb k u57).bind fun u1a =>
  (pimpl_copyClause k u83).bind fun u2e =>
  if u1a.gClauses.length + [u2e].length ≤ 1073741824 then
    (pimpl_DbOk k (GDb.mk (u1a.gClauses ++ [u2e]) u1a.gOpen)).bind fun udg =>
    if (!udg) = true then
      (pimpl_copyDb k u57).bind fun udh =>
      some (udh, false)
    else
      some (GDb.mk (u1a.gClauses ++ [u2e]) u1a.gOpen, true)
  else none
theorem cimpl_Added {k : Nat} {u57 : GDb} {u83 : GClause} {r : GDb × Bool} (h : pimpl_Added k u57 u83 = some r) : FnO Tryz.prog 10 [.v (.agg (GDb.q u57)) [], .v (.agg (GClause.q u83)) []] (.v (.tup [.agg (GDb.q r.1), .bool r.2]) [(0, .app 35), (1, .app 9)]) [] := by
  refine FnO.o2 Tryz.func10 (rfl : Tryz.f10.body = some _) ?_
  intro w0 X0 Fin pv0 pb gt
  unfold pimpl_Added at h
  apply Wc.seq
  refine Wc.r0 ⟨[tP 2 2, tP 3 3, tP 4 4], [bC 2 (GDb.q u57), bC 3 (GClause.q u83), (4, .cells GDb.z [(0, .app 35), (1, .app 9)])], []⟩ ?_
  apply Wc.seq
  obtain ⟨u1a, h931, h⟩ := obind h
  refine Wc.r2 [{}, { r := some (.v (.agg (GDb.q u1a)) [(0, .app 35), (1, .app 9)]) }, {}, { tk := [8] }] ⟨[tP 2 2, tP 3 3, tP 4 4, tP 6 6], [bC 2 (GDb.q u57), bC 3 (GClause.q u83), (4, .cells GDb.z [(0, .app 35), (1, .app 9)]), (6, .cells (GDb.q u1a) [(0, .app 35), (1, .app 9)])], []⟩ (.cons (cimpl_copyDb h931) .nil) ?_
  apply Wc.seq
  obtain ⟨u2e, h932, h⟩ := obind h
  obtain ⟨h933, h⟩ := oguard h
  refine Wc.draw hmix [{}, { md := 1 }, {}, { r := some (.v (.agg (GClause.q u2e)) [(3, .app 31), (7, .app 31)]) }, { c := some (List.map GClause.c [u2e]) }, { c := some (List.map GClause.c (u1a.gClauses ++ [u2e])), tk := [10] }, {}, { tk := [14] }] [.so 6] [2, 4, 6] [2, 4, 6] [] ⟨[tP 2 2, tP 4 4, tP 6 6], [bC 2 (GDb.q u57), (4, .cells GDb.z [(0, .app 35), (1, .app 9)]), (6, .cells [.sl (List.map GClause.c (u1a.gClauses ++ [u2e])), .sl (List.map cS u1a.gOpen)] [(0, .app 35), (1, .app 9)])], []⟩ _ (by kernel_rfl) (fun X => by kernel_rfl) (.cons (cimpl_copyClause h932) (.cons (cl_cons (c := GClause.c) (x := u2e) (GClause.c_eq u2e) (cl_nil GClause.c)) (.cons (app_re2 GClause.c u1a.gClauses [u2e]) (.cons (app_leaf (c := GClause.c) (ys := [u2e]) GClause.c_leaf) (.cons (app_obl2 (c := GClause.c) (xs := u1a.gClauses) (ys := [u2e]) GClause.c_len h933) .nil))))) ?_
  apply Wc.seq
  apply Wc.seq
  obtain ⟨udg, h934, h⟩ := obind h
  refine Wc.r2 [{}, { r := some (.v (.bool udg) []) }] ⟨[tP 2 2, tP 4 4, tP 6 6, tB 18 (!udg)], [bC 2 (GDb.q u57), (4, .cells GDb.z [(0, .app 35), (1, .app 9)]), (6, .cells [.sl (List.map GClause.c (u1a.gClauses ++ [u2e])), .sl (List.map cS u1a.gOpen)] [(0, .app 35), (1, .app 9)])], []⟩ (.cons (cimpl_DbOk h934) .nil) ?_
  rcases oif h with ⟨h935, h⟩ | ⟨h935, h⟩
  · refine Wc.cT h935 ?_
    apply Wc.seq
    obtain ⟨udh, h936, h⟩ := obind h
    refine Wc.r2 [{}, { r := some (.v (.agg (GDb.q udh)) [(0, .app 35), (1, .app 9)]) }, { tk := [20] }] ⟨[tP 4 4, tB 5 false], [(4, .cells (GDb.q udh) [(0, .app 35), (1, .app 9)])], []⟩ (.cons (cimpl_copyDb h936) .nil) ?_
    obtain rfl := Option.some.inj h; exact Wc.ret dn
  · refine Wc.cF h935 ?_
    refine Wc.fx [] ⟨[tP 4 4, tP 6 6], [(4, .cells GDb.z [(0, .app 35), (1, .app 9)]), (6, .cells [.sl (List.map GClause.c (u1a.gClauses ++ [u2e])), .sl (List.map cS u1a.gOpen)] [(0, .app 35), (1, .app 9)])], []⟩ ?_
    refine Wc.skip ?_
    apply Wc.seq
    refine Wc.r1 [{ md := 1 }, { tk := [21] }] ⟨[tP 4 4, tB 5 true], [(4, .cells [.sl (List.map GClause.c (u1a.gClauses ++ [u2e])), .sl (List.map cS u1a.gOpen)] [(0, .app 35), (1, .app 9)])], []⟩ ?_
    obtain rfl := Option.some.inj h; exact Wc.ret dn

def pspec_l08Pred (k : Nat) (uaz : GL01Cur) : Option (GL01Cur × ByteArray) :=
  (pspec_l01Pick k uaz [(bs [112, 47, 49]), (bs [113, 47, 49]), (bs [97, 112, 112, 47, 51]), (bs [110, 111, 110, 101, 47, 48]), (bs [117, 110, 107, 110, 111, 119, 110, 47, 49]), (bs [116, 114, 117, 101, 47, 48]), (bs [44, 47, 50]), (bs [])]).bind fun u6h =>
  some (u6h.1, u6h.2)
theorem cspec_l08Pred {k : Nat} {uaz : GL01Cur} {r : GL01Cur × ByteArray} (h : pspec_l08Pred k uaz = some r) : FnO Tryz.prog 81 [.p (GL01Cur.q uaz) []] (.v (.str r.2) []) [(0, .p (GL01Cur.q r.1) [])] := by
  refine FnO.o2 Tryz.func81 (rfl : Tryz.f81.body = some _) ?_
  intro w0 X0 Fin pv0 pb gt
  unfold pspec_l08Pred at h
  apply Wc.seq
  refine Wc.r0 ⟨[tP 0 1000000], [bC 1000000 (GL01Cur.q uaz)], []⟩ ?_
  apply Wc.seq
  obtain ⟨u6h, h937, h⟩ := obind h
  refine Wc.r2 [{}, { c := some (List.map cS [(bs [112, 47, 49]), (bs [113, 47, 49]), (bs [97, 112, 112, 47, 51]), (bs [110, 111, 110, 101, 47, 48]), (bs [117, 110, 107, 110, 111, 119, 110, 47, 49]), (bs [116, 114, 117, 101, 47, 48]), (bs [44, 47, 50]), (bs [])]) }, { r := some (.v (.str u6h.2) []), outs := [(0, .p (GL01Cur.q u6h.1) [])] }] ⟨[tS 2 u6h.2], [bC 1000000 (GL01Cur.q u6h.1)], []⟩ (.cons (cl_cons (c := cS) (x := (bs [112, 47, 49])) rfl (cl_cons (c := cS) (x := (bs [113, 47, 49])) rfl (cl_cons (c := cS) (x := (bs [97, 112, 112, 47, 51])) rfl (cl_cons (c := cS) (x := (bs [110, 111, 110, 101, 47, 48])) rfl (cl_cons (c := cS) (x := (bs [117, 110, 107, 110, 111, 119, 110, 47, 49])) rfl (cl_cons (c := cS) (x := (bs [116, 114, 117, 101, 47, 48])) rfl (cl_cons (c := cS) (x := (bs [44, 47, 50])) rfl (cl_cons (c := cS) (x := (bs [])) rfl (cl_nil cS))))))))) (.cons (cspec_l01Pick h937) .nil)) ?_
  obtain rfl := Option.some.inj h; exact Wc.ret dn

def pspec_DrawClausesOf (k : Nat) (ub0 : List Int) : Option (GDb × ByteArray) :=
  (pspec_l01New k ub0).bind fun udi =>
  (pspec_l08Pred k udi).bind fun u5n =>
  (pspec_l08Any k u5n.1).bind fun ub1 =>
  some (ub1.2, u5n.2)
theorem cspec_DrawClausesOf {k : Nat} {ub0 : List Int} {r : GDb × ByteArray} (h : pspec_DrawClausesOf k ub0 = some r) : FnO Tryz.prog 53 [.v (.sl (List.map cI.u8 ub0)) []] (.v (.tup [.agg (GDb.q r.1), .str r.2]) [(0, .app 35)]) [] := by
  refine FnO.o2 Tryz.func53 (rfl : Tryz.f53.body = some _) ?_
  intro w0 X0 Fin pv0 pb gt
  unfold pspec_DrawClausesOf at h
  apply Wc.seq
  refine Wc.r0 ⟨[tV 0 (.sl (List.map cI.u8 ub0)), tP 2 2], [(2, .cells GDb.z [(0, .app 35), (1, .app 9)])], []⟩ ?_
  apply Wc.seq
  obtain ⟨udi, h941, h⟩ := obind h
  refine Wc.r2 [{}, { r := some (.p (GL01Cur.q udi) []) }] ⟨[tP 2 2, tP 4 7], [(2, .cells GDb.z [(0, .app 35), (1, .app 9)]), bC 7 (GL01Cur.q udi)], []⟩ (.cons (cspec_l01New h941) .nil) ?_
  apply Wc.seq
  obtain ⟨u5n, h942, h⟩ := obind h
  refine Wc.r2 [{}, { r := some (.v (.str u5n.2) []), outs := [(0, .p (GL01Cur.q u5n.1) [])] }] ⟨[tP 2 2, tP 4 7, tS 5 u5n.2], [(2, .cells GDb.z [(0, .app 35), (1, .app 9)]), bC 7 (GL01Cur.q u5n.1)], []⟩ (.cons (cspec_l08Pred h942) .nil) ?_
  apply Wc.seq
  obtain ⟨ub1, h943, h⟩ := obind h
  refine Wc.r2 [{}, { r := some (.v (.agg (GDb.q ub1.2)) [(0, .app 35)]), outs := [(0, .p (GL01Cur.q ub1.1) [])] }, {}, { tk := [11] }] ⟨[tP 2 2, tS 3 u5n.2], [(2, .cells (GDb.q ub1.2) [(0, .app 35)])], []⟩ (.cons (cspec_l08Any h943) .nil) ?_
  obtain rfl := Option.some.inj h; exact Wc.ret dn

def pspec_DrawKnown (k : Nat) (ub2 : List Int) : Option (GDb × ByteArray) :=
  (pspec_DrawClausesOf k ub2).bind fun u6i =>
  some (u6i.1, u6i.2)
theorem cspec_DrawKnown {k : Nat} {ub2 : List Int} {r : GDb × ByteArray} (h : pspec_DrawKnown k ub2 = some r) : FnO Tryz.prog 12 [.v (.sl (List.map cI.u8 ub2)) []] (.v (.tup [.agg (GDb.q r.1), .str r.2]) [(0, .app 35)]) [] := by
  refine FnO.o2 Tryz.func12 (rfl : Tryz.f12.body = some _) ?_
  intro w0 X0 Fin pv0 pb gt
  unfold pspec_DrawKnown at h
  apply Wc.seq
  refine Wc.r0 ⟨[tV 0 (.sl (List.map cI.u8 ub2)), tP 2 2], [(2, .cells GDb.z [(0, .app 35), (1, .app 9)])], []⟩ ?_
  apply Wc.seq
  obtain ⟨u6i, h945, h⟩ := obind h
  refine Wc.r2 [{}, { r := some (.v (.tup [.agg (GDb.q u6i.1), .str u6i.2]) [(0, .app 35)]) }, { tk := [5] }, {}, { tk := [6] }] ⟨[tP 2 2, tS 3 u6i.2], [(2, .cells (GDb.q u6i.1) [(0, .app 35)])], []⟩ (.cons (cspec_DrawClausesOf h945) .nil) ?_
  obtain rfl := Option.some.inj h; exact Wc.ret dn

def pspec_DrawPredOf (k : Nat) (ub3 : List Int) : Option GTerm :=
  (pspec_l01New k ub3).bind fun uec =>
  (pspec_l03Any k uec).bind fun ub4 =>
  some ub4.2
theorem cspec_DrawPredOf {k : Nat} {ub3 : List Int} {r : GTerm} (h : pspec_DrawPredOf k ub3 = some r) : FnO Tryz.prog 13 [.v (.sl (List.map cI.u8 ub3)) []] (.v (.agg (GTerm.q r)) [(3, .app 31)]) [] := by
  refine FnO.o2 Tryz.func13 (rfl : Tryz.f13.body = some _) ?_
  intro w0 X0 Fin pv0 pb gt
  unfold pspec_DrawPredOf at h
  apply Wc.seq
  refine Wc.r0 ⟨[tV 0 (.sl (List.map cI.u8 ub3)), tP 2 2], [(2, .cells GTerm.z [(3, .app 31)])], []⟩ ?_
  apply Wc.seq
  obtain ⟨uec, h948, h⟩ := obind h
  obtain ⟨ub4, h949, h⟩ := obind h
  refine Wc.r2 [{}, { r := some (.p (GL01Cur.q uec) []) }, { r := some (.v (.agg (GTerm.q ub4.2)) [(3, .app 31)]), outs := [(0, .p (GL01Cur.q ub4.1) [])] }, { tk := [5] }] ⟨[tP 2 2], [(2, .cells (GTerm.q ub4.2) [(3, .app 31)])], []⟩ (.cons (cspec_l01New h948) (.cons (cspec_l03Any h949) .nil)) ?_
  obtain rfl := Option.some.inj h; exact Wc.ret dn

def pspec_SameTerm_L1 (k : Nat) (rspec_SameTerm : GTerm → GTerm → Option Bool) (v8 : GTerm) (ve : GTerm) : Nat → Int → Option (Out Bool Unit)
  | 0, _ => none
  | m + 1, u30 =>
    if (decide (u30 < (v8.gKids.length : Int))) = true then
      (at' v8.gKids u30).bind fun ub5 =>
      (at' ve.gKids u30).bind fun ub6 =>
      (rspec_SameTerm ub5 ub6).bind fun udj =>
      if (!udj) = true then
        some (.ret false)
      else
        pspec_SameTerm_L1 k rspec_SameTerm v8 ve m (wr.i64 (u30 + 1))
    else
      some (.done ())
mutual
def pspec_SameTerm : Nat → GTerm → GTerm → Option Bool
  | 0, _, _ => none
  | k + 1, v8, ve =>
    if (v8.gKind != ve.gKind) = true then
      some false
    else
      if (!(sEq v8.gName ve.gName)) = true then
        some false
      else
        if (v8.gNum != ve.gNum) = true then
          some false
        else
          if ((v8.gKids.length : Int) != (ve.gKids.length : Int)) = true then
            some false
          else
            (pspec_SameTerm_L1 k (pspec_SameTerm k) v8 ve k 0).bind fun out1 => match out1 with
            | .ret r => some r
            | .done () =>
              some true
end
theorem all_pspec_SameTerm : ∀ k : Nat, (∀ {v8 : GTerm} {ve : GTerm} {r : Bool}, pspec_SameTerm k v8 ve = some r → FnO Tryz.prog 14 [.v (.agg (GTerm.q v8)) [], .v (.agg (GTerm.q ve)) []] (.v (.bool r) []) []) := by
  intro k
  induction k with
  | zero =>
    · intro v8 ve r h
      exact (onone (by rw [pspec_SameTerm] at h; exact h)).elim
  | succ k ih =>
    have ih_pspec_SameTerm := @ih
    · intro v8 ve r h
      rw [pspec_SameTerm] at h
      refine FnO.o2 Tryz.func14 (rfl : Tryz.f14.body = some _) ?_
      intro w0 X0 Fin pv0 pb gt
      apply Wc.seq
      refine Wc.r0 ⟨[tP 2 2, tP 3 3], [bC 2 (GTerm.q v8), bC 3 (GTerm.q ve)], []⟩ ?_
      apply Wc.seq
      apply Wc.seq
      rcases oif h with ⟨h950, h⟩ | ⟨h950, h⟩
      · refine Wc.r2 [{}, {}, {}, {}, {}, { re := some (.bool true) }] ⟨[tP 2 2, tP 3 3, tB 33 true], [bC 2 (GTerm.q v8), bC 3 (GTerm.q ve)], []⟩ (.cons (congrArg AV.bool h950) .nil) ?_
        refine Wc.cT rfl ?_
        apply Wc.seq
        refine Wc.r0 ⟨[tB 4 false], [], []⟩ ?_
        obtain rfl := Option.some.inj h; exact Wc.ret dn
      · rcases oif h with ⟨h951, h⟩ | ⟨h951, h⟩
        · refine Wc.r2 [{}, {}, {}, {}, {}, { re := some (.bool false) }, {}, {}, {}, {}, {}, {}, { re := some (.bool true) }] ⟨[tP 2 2, tP 3 3, tB 33 true], [bC 2 (GTerm.q v8), bC 3 (GTerm.q ve)], []⟩ (.cons (congrArg AV.bool h950) (.cons (congrArg AV.bool h951) .nil)) ?_
          refine Wc.cT rfl ?_
          apply Wc.seq
          refine Wc.r0 ⟨[tB 4 false], [], []⟩ ?_
          obtain rfl := Option.some.inj h; exact Wc.ret dn
        · rcases oif h with ⟨h952, h⟩ | ⟨h952, h⟩
          · refine Wc.r2 [{}, {}, {}, {}, {}, { re := some (.bool false) }, {}, {}, {}, {}, {}, {}, { re := some (.bool false) }, {}, {}, {}, {}, {}, {}, { re := some (.bool true) }] ⟨[tP 2 2, tP 3 3, tB 33 true], [bC 2 (GTerm.q v8), bC 3 (GTerm.q ve)], []⟩ (.cons (congrArg AV.bool h950) (.cons (congrArg AV.bool h951) (.cons (congrArg AV.bool h952) .nil))) ?_
            refine Wc.cT rfl ?_
            apply Wc.seq
            refine Wc.r0 ⟨[tB 4 false], [], []⟩ ?_
            obtain rfl := Option.some.inj h; exact Wc.ret dn
          · refine Wc.r2 [{}, {}, {}, {}, {}, { re := some (.bool false) }, {}, {}, {}, {}, {}, {}, { re := some (.bool false) }, {}, {}, {}, {}, {}, {}, { re := some (.bool false) }, {}, {}, { v := some (aI (v8.gKids.length : Int)) }, {}, {}, { v := some (aI (ve.gKids.length : Int)) }] ⟨[tP 2 2, tP 3 3, tB 33 ((v8.gKids.length : Int) != (ve.gKids.length : Int))], [bC 2 (GTerm.q v8), bC 3 (GTerm.q ve)], []⟩ (.cons (congrArg AV.bool h950) (.cons (congrArg AV.bool h951) (.cons (congrArg AV.bool h952) (.cons (len_obl GTerm.c v8.gKids) (.cons (len_obl GTerm.c ve.gKids) .nil))))) ?_
            rcases oif h with ⟨h953, h⟩ | ⟨h953, h⟩
            · refine Wc.cT h953 ?_
              apply Wc.seq
              refine Wc.r0 ⟨[tB 4 false], [], []⟩ ?_
              obtain rfl := Option.some.inj h; exact Wc.ret dn
            · refine Wc.cF h953 ?_
              refine Wc.fx [] ⟨[tP 2 2, tP 3 3], [bC 2 (GTerm.q v8), bC 3 (GTerm.q ve)], []⟩ ?_
              refine Wc.skip ?_
              apply Wc.seq
              apply Wc.seq
              refine Wc.r0 ⟨[tP 2 2, tP 3 3, tI 5 0], [bC 2 (GTerm.q v8), bC 3 (GTerm.q ve)], []⟩ ?_
              obtain ⟨out1, h954, h⟩ := obind h
              refine Wc.lastJ (fun st => out1 = .done () ∧ st = ⟨[], [], []⟩) ?_ ?_
              · refine Wc.block ?_
                refine Wc.loop (fun m st => ∃ (u30 : Int), st = ⟨[tP 2 2, tP 3 3, tI 5 u30], [bC 2 (GTerm.q v8), bC 3 (GTerm.q ve)], []⟩ ∧ pspec_SameTerm_L1 k (pspec_SameTerm k) v8 ve m u30 = some out1) ?_ k ⟨_, rfl, h954⟩
                rintro m st ⟨u30, rfl, h954⟩
                cases m with
                | zero => exact (onone h954).elim
                | succ m =>
                  apply Wc.seq
                  apply Wc.seq
                  refine Wc.r2 [{}, {}, {}, { v := some (aI (v8.gKids.length : Int)) }] ⟨[tP 2 2, tP 3 3, tI 5 u30, tB 38 (decide (u30 < (v8.gKids.length : Int)))], [bC 2 (GTerm.q v8), bC 3 (GTerm.q ve)], []⟩ (.cons (len_obl GTerm.c v8.gKids) .nil) ?_
                  rcases oif h954 with ⟨h955, h954⟩ | ⟨h955, h954⟩
                  · refine Wc.cT h955 ?_
                    refine Wc.fx [] ⟨[tP 2 2, tP 3 3, tI 5 u30], [bC 2 (GTerm.q v8), bC 3 (GTerm.q ve)], []⟩ ?_
                    refine Wc.skip ?_
                    apply Wc.seq
                    refine Wc.block ?_
                    apply Wc.seq
                    obtain ⟨ub5, h956, h954⟩ := obind h954
                    obtain ⟨ub6, h957, h954⟩ := obind h954
                    obtain ⟨udj, h958, h954⟩ := obind h954
                    refine Wc.draw hmix [{}, {}, {}, { v := some (.vptr (GTerm.q ub5)) }, {}, {}, {}, {}, { v := some (.vptr (GTerm.q ub6)) }, {}, { r := some (.v (.bool udj) []) }] [] [2, 3, 5, 52] [2, 3] [] ⟨[tP 2 2, tP 3 3, tI 5 u30, tB 52 (!udj)], [bC 2 (GTerm.q v8), bC 3 (GTerm.q ve)], []⟩ _ (by kernel_rfl) (fun X => by kernel_rfl) (.cons (at_obl (c := GTerm.c) (GTerm.c_eq ub5) GTerm.c_len h956) (.cons (len_ok 4 (GTerm.q ub5)) (.cons (at_obl (c := GTerm.c) (GTerm.c_eq ub6) GTerm.c_len h957) (.cons (len_ok 4 (GTerm.q ub6)) (.cons (ih_pspec_SameTerm h958) .nil))))) ?_
                    rcases oif h954 with ⟨h959, h954⟩ | ⟨h959, h954⟩
                    · refine Wc.cT h959 ?_
                      apply Wc.seq
                      refine Wc.r0 ⟨[tB 4 false], [], []⟩ ?_
                      refine Wc.ret ?_
                      obtain rfl := Option.some.inj h954
                      obtain rfl := Option.some.inj h
                      exact ⟨.inl rfl, by kernel_rfl, by kernel_rfl⟩
                    · refine Wc.cF h959 ?_
                      refine Wc.fx [] ⟨[tP 2 2, tP 3 3, tI 5 u30], [bC 2 (GTerm.q v8), bC 3 (GTerm.q ve)], []⟩ ?_
                      refine Wc.skip ?_
                      refine Wc.r0 ⟨[tP 2 2, tP 3 3, tI 5 (wr.i64 (u30 + 1))], [bC 2 (GTerm.q v8), bC 3 (GTerm.q ve)], []⟩ ?_
                      exact ⟨_, Nat.lt_succ_self _, _, rfl, h954⟩
                  · refine Wc.cF h955 ?_
                    refine Wc.fx [] ⟨[], [], []⟩ ?_
                    refine Wc.exit ?_
                    obtain rfl := Option.some.inj h954
                    exact ⟨rfl, rfl⟩
              · rintro st ⟨rfl, rfl⟩
                apply Wc.seq
                refine Wc.r0 ⟨[tB 4 true], [], []⟩ ?_
                obtain rfl := Option.some.inj h; exact Wc.ret dn
theorem cspec_SameTerm {k : Nat} {v8 : GTerm} {ve : GTerm} {r : Bool} (h : pspec_SameTerm k v8 ve = some r) : FnO Tryz.prog 14 [.v (.agg (GTerm.q v8)) [], .v (.agg (GTerm.q ve)) []] (.v (.bool r) []) [] := (all_pspec_SameTerm k) h

def pspec_l08ClauseTermRaw (k : Nat) (u84 : GClause) : Option GTerm :=
  (pspec_l03Two k (bs [58, 45]) u84.gHead u84.gBody).bind fun udk =>
  some udk
theorem cspec_l08ClauseTermRaw {k : Nat} {u84 : GClause} {r : GTerm} (h : pspec_l08ClauseTermRaw k u84 = some r) : FnO Tryz.prog 67 [.v (.agg (GClause.q u84)) []] (.v (.agg (GTerm.q r)) [(3, .app 31)]) [] := by
  refine FnO.o2 Tryz.func67 (rfl : Tryz.f67.body = some _) ?_
  intro w0 X0 Fin pv0 pb gt
  unfold pspec_l08ClauseTermRaw at h
  apply Wc.seq
  refine Wc.r0 ⟨[tP 1 1, tP 2 2], [bC 1 (GClause.q u84), (2, .cells GTerm.z [(3, .app 31)])], []⟩ ?_
  apply Wc.seq
  obtain ⟨udk, h961, h⟩ := obind h
  refine Wc.r2 [{}, {}, {}, {}, { r := some (.v (.agg (GTerm.q udk)) [(3, .app 31)]) }, { tk := [7] }] ⟨[tP 2 2], [(2, .cells (GTerm.q udk) [(3, .app 31)])], []⟩ (.cons (cspec_l03Two h961) .nil) ?_
  obtain rfl := Option.some.inj h; exact Wc.ret dn

def pspec_ClauseTerm (k : Nat) (ub7 : GClause) : Option GTerm :=
  (pspec_l08ClauseTermRaw k ub7).bind fun udl =>
  (pspec_l34Term k udl).bind fun udm =>
  some udm
theorem cspec_ClauseTerm {k : Nat} {ub7 : GClause} {r : GTerm} (h : pspec_ClauseTerm k ub7 = some r) : FnO Tryz.prog 30 [.v (.agg (GClause.q ub7)) []] (.v (.agg (GTerm.q r)) [(3, .app 31)]) [] := by
  refine FnO.o2 Tryz.func30 (rfl : Tryz.f30.body = some _) ?_
  intro w0 X0 Fin pv0 pb gt
  unfold pspec_ClauseTerm at h
  apply Wc.seq
  refine Wc.r0 ⟨[tP 1 1, tP 2 2], [bC 1 (GClause.q ub7), (2, .cells GTerm.z [(3, .app 31)])], []⟩ ?_
  apply Wc.seq
  obtain ⟨udl, h964, h⟩ := obind h
  refine Wc.r2 [{}, { r := some (.v (.agg (GTerm.q udl)) [(3, .app 31)]) }, {}, { tk := [5] }] ⟨[tP 2 2, tP 3 3], [(2, .cells GTerm.z [(3, .app 31)]), (3, .cells (GTerm.q udl) [(3, .app 31)])], []⟩ (.cons (cspec_l08ClauseTermRaw h964) .nil) ?_
  apply Wc.seq
  obtain ⟨udm, h965, h⟩ := obind h
  refine Wc.r2 [{}, { r := some (.v (.agg (GTerm.q udm)) [(3, .app 31)]) }, { tk := [7] }] ⟨[tP 2 2], [(2, .cells (GTerm.q udm) [(3, .app 31)])], []⟩ (.cons (cspec_l34Term h965) .nil) ?_
  obtain rfl := Option.some.inj h; exact Wc.ret dn

def plaws_sameTexts_L1 (k : Nat) (zo : List ByteArray) (u0m : List ByteArray) : Nat → Int → Option (Out Bool Unit)
  | 0, _ => none
  | m + 1, u31 =>
    if (decide (u31 < (zo.length : Int))) = true then
      (at' zo u31).bind fun ub8 =>
      (at' u0m u31).bind fun ub9 =>
      if (!(sEq ub8 ub9)) = true then
        some (.ret false)
      else
        plaws_sameTexts_L1 k zo u0m m (wr.i64 (u31 + 1))
    else
      some (.done ())
def plaws_sameTexts (k : Nat) (zo : List ByteArray) (u0m : List ByteArray) : Option Bool :=
  if ((zo.length : Int) != (u0m.length : Int)) = true then
    some false
  else
    (plaws_sameTexts_L1 k zo u0m k 0).bind fun out1 => match out1 with
    | .ret r => some r
    | .done () =>
      some true
theorem claws_sameTexts {k : Nat} {zo : List ByteArray} {u0m : List ByteArray} {r : Bool} (h : plaws_sameTexts k zo u0m = some r) : FnO Tryz.prog 54 [.v (.sl (List.map cS zo)) [], .v (.sl (List.map cS u0m)) []] (.v (.bool r) []) [] := by
  refine FnO.o2 Tryz.func54 (rfl : Tryz.f54.body = some _) ?_
  intro w0 X0 Fin pv0 pb gt
  unfold plaws_sameTexts at h
  apply Wc.seq
  refine Wc.r0 ⟨[tV 0 (.sl (List.map cS zo)), tV 1 (.sl (List.map cS u0m))], [], []⟩ ?_
  apply Wc.seq
  apply Wc.seq
  refine Wc.r2 [{}, { v := some (aI (zo.length : Int)) }, {}, { v := some (aI (u0m.length : Int)) }] ⟨[tV 0 (.sl (List.map cS zo)), tV 1 (.sl (List.map cS u0m)), tB 10 ((zo.length : Int) != (u0m.length : Int))], [], []⟩ (.cons (len_obl cS zo) (.cons (len_obl cS u0m) .nil)) ?_
  rcases oif h with ⟨h966, h⟩ | ⟨h966, h⟩
  · refine Wc.cT h966 ?_
    apply Wc.seq
    refine Wc.r0 ⟨[tB 4 false], [], []⟩ ?_
    obtain rfl := Option.some.inj h; exact Wc.ret dn
  · refine Wc.cF h966 ?_
    refine Wc.fx [] ⟨[tV 0 (.sl (List.map cS zo)), tV 1 (.sl (List.map cS u0m))], [], []⟩ ?_
    refine Wc.skip ?_
    apply Wc.seq
    apply Wc.seq
    refine Wc.r0 ⟨[tV 0 (.sl (List.map cS zo)), tV 1 (.sl (List.map cS u0m)), tI 5 0], [], []⟩ ?_
    obtain ⟨out1, h967, h⟩ := obind h
    refine Wc.lastJ (fun st => out1 = .done () ∧ st = ⟨[], [], []⟩) ?_ ?_
    · refine Wc.block ?_
      refine Wc.loop (fun m st => ∃ (u31 : Int), st = ⟨[tV 0 (.sl (List.map cS zo)), tV 1 (.sl (List.map cS u0m)), tI 5 u31], [], []⟩ ∧ plaws_sameTexts_L1 k zo u0m m u31 = some out1) ?_ k ⟨_, rfl, h967⟩
      rintro m st ⟨u31, rfl, h967⟩
      cases m with
      | zero => exact (onone h967).elim
      | succ m =>
        apply Wc.seq
        apply Wc.seq
        refine Wc.r2 [{}, {}, { v := some (aI (zo.length : Int)) }] ⟨[tV 0 (.sl (List.map cS zo)), tV 1 (.sl (List.map cS u0m)), tI 5 u31, tB 14 (decide (u31 < (zo.length : Int)))], [], []⟩ (.cons (len_obl cS zo) .nil) ?_
        rcases oif h967 with ⟨h968, h967⟩ | ⟨h968, h967⟩
        · refine Wc.cT h968 ?_
          refine Wc.fx [] ⟨[tV 0 (.sl (List.map cS zo)), tV 1 (.sl (List.map cS u0m)), tI 5 u31], [], []⟩ ?_
          refine Wc.skip ?_
          apply Wc.seq
          refine Wc.block ?_
          apply Wc.seq
          obtain ⟨ub8, h969, h967⟩ := obind h967
          obtain ⟨ub9, h970, h967⟩ := obind h967
          refine Wc.draw hmix [{}, {}, { v := some (.vptr [.str ub8]) }, {}, {}, {}, { v := some (.vptr [.str ub9]) }] [] [0, 1, 5, 25] [] [] ⟨[tV 0 (.sl (List.map cS zo)), tV 1 (.sl (List.map cS u0m)), tI 5 u31, tB 25 (!(sEq ub8 ub9))], [], []⟩ _ (by kernel_rfl) (fun X => by kernel_rfl) (.cons (at_obl (c := cS) rfl cS_len h969) (.cons (len_ok 1 [.str ub8]) (.cons (at_obl (c := cS) rfl cS_len h970) (.cons (len_ok 1 [.str ub9]) .nil)))) ?_
          rcases oif h967 with ⟨h971, h967⟩ | ⟨h971, h967⟩
          · refine Wc.cT h971 ?_
            apply Wc.seq
            refine Wc.r0 ⟨[tB 4 false], [], []⟩ ?_
            refine Wc.ret ?_
            obtain rfl := Option.some.inj h967
            obtain rfl := Option.some.inj h
            exact ⟨.inl rfl, by kernel_rfl, by kernel_rfl⟩
          · refine Wc.cF h971 ?_
            refine Wc.fx [] ⟨[tV 0 (.sl (List.map cS zo)), tV 1 (.sl (List.map cS u0m)), tI 5 u31], [], []⟩ ?_
            refine Wc.skip ?_
            refine Wc.r0 ⟨[tV 0 (.sl (List.map cS zo)), tV 1 (.sl (List.map cS u0m)), tI 5 (wr.i64 (u31 + 1))], [], []⟩ ?_
            exact ⟨_, Nat.lt_succ_self _, _, rfl, h967⟩
        · refine Wc.cF h968 ?_
          refine Wc.fx [] ⟨[], [], []⟩ ?_
          refine Wc.exit ?_
          obtain rfl := Option.some.inj h967
          exact ⟨rfl, rfl⟩
    · rintro st ⟨rfl, rfl⟩
      apply Wc.seq
      refine Wc.r0 ⟨[tB 4 true], [], []⟩ ?_
      obtain rfl := Option.some.inj h; exact Wc.ret dn

def plaws_sameDb_L1 (k : Nat) (vp : GDb) (zg : GDb) : Nat → Int → Option (Out Bool Unit)
  | 0, _ => none
  | m + 1, u1w =>
    if (decide (u1w < (vp.gClauses.length : Int))) = true then
      (at' vp.gClauses u1w).bind fun u5o =>
      (pspec_ClauseTerm k u5o).bind fun udn =>
      (at' zg.gClauses u1w).bind fun u5p =>
      (pspec_ClauseTerm k u5p).bind fun udo =>
      (pspec_SameTerm k udn udo).bind fun udp =>
      if (!udp) = true then
        some (.ret false)
      else
        (at' vp.gClauses u1w).bind fun u85 =>
        (at' zg.gClauses u1w).bind fun u86 =>
        if (!(sEq u85.gFile u86.gFile)) = true then
          some (.ret false)
        else
          plaws_sameDb_L1 k vp zg m (wr.i64 (u1w + 1))
    else
      some (.done ())
def plaws_sameDb (k : Nat) (vp : GDb) (zg : GDb) : Option Bool :=
  if ((vp.gClauses.length : Int) != (zg.gClauses.length : Int)) = true then
    some false
  else
    (plaws_sameTexts k vp.gOpen zg.gOpen).bind fun udq =>
    if (!udq) = true then
      some false
    else
      (plaws_sameDb_L1 k vp zg k 0).bind fun out1 => match out1 with
      | .ret r => some r
      | .done () =>
        some true
set_option maxHeartbeats 4000000 in
theorem claws_sameDb {k : Nat} {vp : GDb} {zg : GDb} {r : Bool} (h : plaws_sameDb k vp zg = some r) : FnO Tryz.prog 15 [.v (.agg (GDb.q vp)) [], .v (.agg (GDb.q zg)) []] (.v (.bool r) []) [] := by
  refine FnO.o2 Tryz.func15 (rfl : Tryz.f15.body = some _) ?_
  intro w0 X0 Fin pv0 pb gt
  unfold plaws_sameDb at h
  apply Wc.seq
  refine Wc.r0 ⟨[tP 2 2, tP 3 3], [bC 2 (GDb.q vp), bC 3 (GDb.q zg)], []⟩ ?_
  apply Wc.seq
  apply Wc.seq
  rcases oif h with ⟨h972, h⟩ | ⟨h972, h⟩
  · refine Wc.r2 [{}, {}, { v := some (aI (vp.gClauses.length : Int)) }, {}, {}, { v := some (aI (zg.gClauses.length : Int)) }, {}, { re := some (.bool true) }] ⟨[tP 2 2, tP 3 3, tB 20 true], [bC 2 (GDb.q vp), bC 3 (GDb.q zg)], []⟩ (.cons (len_obl GClause.c vp.gClauses) (.cons (len_obl GClause.c zg.gClauses) (.cons (congrArg AV.bool h972) .nil))) ?_
    refine Wc.cT rfl ?_
    apply Wc.seq
    refine Wc.r0 ⟨[tB 4 false], [], []⟩ ?_
    obtain rfl := Option.some.inj h; exact Wc.ret dn
  · obtain ⟨udq, h973, h⟩ := obind h
    refine Wc.r2 [{}, {}, { v := some (aI (vp.gClauses.length : Int)) }, {}, {}, { v := some (aI (zg.gClauses.length : Int)) }, {}, { re := some (.bool false) }, {}, {}, {}, {}, { r := some (.v (.bool udq) []) }] ⟨[tP 2 2, tP 3 3, tB 20 (!udq)], [bC 2 (GDb.q vp), bC 3 (GDb.q zg)], []⟩ (.cons (len_obl GClause.c vp.gClauses) (.cons (len_obl GClause.c zg.gClauses) (.cons (congrArg AV.bool h972) (.cons (claws_sameTexts h973) .nil)))) ?_
    rcases oif h with ⟨h974, h⟩ | ⟨h974, h⟩
    · refine Wc.cT h974 ?_
      apply Wc.seq
      refine Wc.r0 ⟨[tB 4 false], [], []⟩ ?_
      obtain rfl := Option.some.inj h; exact Wc.ret dn
    · refine Wc.cF h974 ?_
      refine Wc.fx [] ⟨[tP 2 2, tP 3 3], [bC 2 (GDb.q vp), bC 3 (GDb.q zg)], []⟩ ?_
      refine Wc.skip ?_
      apply Wc.seq
      apply Wc.seq
      refine Wc.r0 ⟨[tP 2 2, tP 3 3, tI 5 0], [bC 2 (GDb.q vp), bC 3 (GDb.q zg)], []⟩ ?_
      obtain ⟨out1, h975, h⟩ := obind h
      refine Wc.lastJ (fun st => out1 = .done () ∧ st = ⟨[], [], []⟩) ?_ ?_
      · refine Wc.block ?_
        refine Wc.loop (fun m st => ∃ (u1w : Int), st = ⟨[tP 2 2, tP 3 3, tI 5 u1w], [bC 2 (GDb.q vp), bC 3 (GDb.q zg)], []⟩ ∧ plaws_sameDb_L1 k vp zg m u1w = some out1) ?_ k ⟨_, rfl, h975⟩
        rintro m st ⟨u1w, rfl, h975⟩
        cases m with
        | zero => exact (onone h975).elim
        | succ m =>
          apply Wc.seq
          apply Wc.seq
          refine Wc.r2 [{}, {}, {}, { v := some (aI (vp.gClauses.length : Int)) }] ⟨[tP 2 2, tP 3 3, tI 5 u1w, tB 25 (decide (u1w < (vp.gClauses.length : Int)))], [bC 2 (GDb.q vp), bC 3 (GDb.q zg)], []⟩ (.cons (len_obl GClause.c vp.gClauses) .nil) ?_
          rcases oif h975 with ⟨h976, h975⟩ | ⟨h976, h975⟩
          · refine Wc.cT h976 ?_
            refine Wc.fx [] ⟨[tP 2 2, tP 3 3, tI 5 u1w], [bC 2 (GDb.q vp), bC 3 (GDb.q zg)], []⟩ ?_
            refine Wc.skip ?_
            apply Wc.seq
            refine Wc.block ?_
            apply Wc.seq
            obtain ⟨u5o, h977, h975⟩ := obind h975
            obtain ⟨udn, h978, h975⟩ := obind h975
            obtain ⟨u5p, h979, h975⟩ := obind h975
            obtain ⟨udo, h980, h975⟩ := obind h975
            obtain ⟨udp, h981, h975⟩ := obind h975
            rcases oif h975 with ⟨h982, h975⟩ | ⟨h982, h975⟩
            · refine Wc.draw hmix [{}, {}, {}, { v := some (.vptr (GClause.q u5o)) }, {}, { r := some (.v (.agg (GTerm.q udn)) [(3, .app 31)]) }, {}, {}, {}, { v := some (.vptr (GClause.q u5p)) }, {}, { r := some (.v (.agg (GTerm.q udo)) [(3, .app 31)]) }, { r := some (.v (.bool udp) []) }, {}, { re := some (.bool true) }] [] [2, 3, 5, 56] [2, 3] [] ⟨[tP 2 2, tP 3 3, tI 5 u1w, tB 56 true], [bC 2 (GDb.q vp), bC 3 (GDb.q zg)], []⟩ _ (by kernel_rfl) (fun X => by kernel_rfl) (.cons (at_obl (c := GClause.c) (GClause.c_eq u5o) GClause.c_len h977) (.cons (len_ok 9 (GClause.q u5o)) (.cons (cspec_ClauseTerm h978) (.cons (at_obl (c := GClause.c) (GClause.c_eq u5p) GClause.c_len h979) (.cons (len_ok 9 (GClause.q u5p)) (.cons (cspec_ClauseTerm h980) (.cons (cspec_SameTerm h981) (.cons (congrArg AV.bool h982) .nil)))))))) ?_
              refine Wc.cT rfl ?_
              apply Wc.seq
              refine Wc.r0 ⟨[tB 4 false], [], []⟩ ?_
              refine Wc.ret ?_
              obtain rfl := Option.some.inj h975
              obtain rfl := Option.some.inj h
              exact ⟨.inl rfl, by kernel_rfl, by kernel_rfl⟩
            · obtain ⟨u85, h983, h975⟩ := obind h975
              obtain ⟨u86, h984, h975⟩ := obind h975
              refine Wc.draw hmix [{}, {}, {}, { v := some (.vptr (GClause.q u5o)) }, {}, { r := some (.v (.agg (GTerm.q udn)) [(3, .app 31)]) }, {}, {}, {}, { v := some (.vptr (GClause.q u5p)) }, {}, { r := some (.v (.agg (GTerm.q udo)) [(3, .app 31)]) }, { r := some (.v (.bool udp) []) }, {}, { re := some (.bool false) }, {}, {}, {}, { v := some (.vptr (GClause.q u85)) }, {}, {}, {}, {}, {}, { v := some (.vptr (GClause.q u86)) }] [] [2, 3, 5, 56] [2, 3] [] ⟨[tP 2 2, tP 3 3, tI 5 u1w, tB 56 (!(sEq u85.gFile u86.gFile))], [bC 2 (GDb.q vp), bC 3 (GDb.q zg)], []⟩ _ (by kernel_rfl) (fun X => by kernel_rfl) (.cons (at_obl (c := GClause.c) (GClause.c_eq u5o) GClause.c_len h977) (.cons (len_ok 9 (GClause.q u5o)) (.cons (cspec_ClauseTerm h978) (.cons (at_obl (c := GClause.c) (GClause.c_eq u5p) GClause.c_len h979) (.cons (len_ok 9 (GClause.q u5p)) (.cons (cspec_ClauseTerm h980) (.cons (cspec_SameTerm h981) (.cons (congrArg AV.bool h982) (.cons (at_obl (c := GClause.c) (GClause.c_eq u85) GClause.c_len h983) (.cons (len_ok 1 [.str u85.gFile]) (.cons (at_obl (c := GClause.c) (GClause.c_eq u86) GClause.c_len h984) (.cons (len_ok 1 [.str u86.gFile]) .nil)))))))))))) ?_
              rcases oif h975 with ⟨h985, h975⟩ | ⟨h985, h975⟩
              · refine Wc.cT h985 ?_
                apply Wc.seq
                refine Wc.r0 ⟨[tB 4 false], [], []⟩ ?_
                refine Wc.ret ?_
                obtain rfl := Option.some.inj h975
                obtain rfl := Option.some.inj h
                exact ⟨.inl rfl, by kernel_rfl, by kernel_rfl⟩
              · refine Wc.cF h985 ?_
                refine Wc.fx [] ⟨[tP 2 2, tP 3 3, tI 5 u1w], [bC 2 (GDb.q vp), bC 3 (GDb.q zg)], []⟩ ?_
                refine Wc.skip ?_
                refine Wc.r0 ⟨[tP 2 2, tP 3 3, tI 5 (wr.i64 (u1w + 1))], [bC 2 (GDb.q vp), bC 3 (GDb.q zg)], []⟩ ?_
                exact ⟨_, Nat.lt_succ_self _, _, rfl, h975⟩
          · refine Wc.cF h976 ?_
            refine Wc.fx [] ⟨[], [], []⟩ ?_
            refine Wc.exit ?_
            obtain rfl := Option.some.inj h975
            exact ⟨rfl, rfl⟩
      · rintro st ⟨rfl, rfl⟩
        apply Wc.seq
        refine Wc.r0 ⟨[tB 4 true], [], []⟩ ?_
        obtain rfl := Option.some.inj h; exact Wc.ret dn

def pimpl_Known_1 (k : Nat) (uba : GClause) (u6j : ByteArray) : Option Bool :=
  (pimpl_PredOf k uba.gHead).bind fun udr =>
  some (sEq udr u6j)
theorem cimpl_Known_1 {k : Nat} {uba : GClause} {u6j : ByteArray} {r : Bool} (h : pimpl_Known_1 k uba u6j = some r) : FnO Tryz.prog 57 [.v (.agg (GClause.q uba)) [], .v (.vptr [.str u6j]) []] (.v (.bool r) []) [] := by
  refine FnO.o2 Tryz.func57 (rfl : Tryz.f57.body = some _) ?_
  intro w0 X0 Fin pv0 pb gt
  unfold pimpl_Known_1 at h
  apply Wc.seq
  refine Wc.r0 ⟨[tV 1 (.vptr [.str u6j]), tP 2 2], [bC 2 (GClause.q uba)], []⟩ ?_
  apply Wc.seq
  obtain ⟨udr, h990, h⟩ := obind h
  refine Wc.draw hmix [{}, {}, { r := some (.v (.str udr) []) }] [] [3] [] [] ⟨[tB 3 (sEq udr u6j)], [], []⟩ _ (by kernel_rfl) (fun X => by kernel_rfl) (.cons (cimpl_PredOf h990) (.cons (len_ok 1 [.str u6j]) .nil)) ?_
  obtain rfl := Option.some.inj h; exact Wc.ret dn

def pslices_IndexFunc___impl_Clause_impl_Clause__on1_pimpl_Known_1_L1 (k : Nat) (z0 : List GClause) (u1x : ByteArray) : Nat → Int → Option (Out Int Unit)
  | 0, _ => none
  | m + 1, u1m =>
    if (decide (u1m < (z0.length : Int))) = true then
      (at' z0 u1m).bind fun ubb =>
      (pimpl_Known_1 k ubb u1x).bind fun uds =>
      if uds = true then
        some (.ret u1m)
      else
        pslices_IndexFunc___impl_Clause_impl_Clause__on1_pimpl_Known_1_L1 k z0 u1x m (wr.i64 (u1m + 1))
    else
      some (.done ())
def pslices_IndexFunc___impl_Clause_impl_Clause__on1_pimpl_Known_1 (k : Nat) (z0 : List GClause) (u1x : ByteArray) : Option Int :=
  (pslices_IndexFunc___impl_Clause_impl_Clause__on1_pimpl_Known_1_L1 k z0 u1x k 0).bind fun out1 => match out1 with
  | .ret r => some r
  | .done () =>
    some (-1)
theorem cslices_IndexFunc___impl_Clause_impl_Clause__on1_pimpl_Known_1 {k : Nat} {z0 : List GClause} {u1x : ByteArray} {r : Int} (h : pslices_IndexFunc___impl_Clause_impl_Clause__on1_pimpl_Known_1 k z0 u1x = some r) : FnO Tryz.prog 83 [.v (.sl (List.map GClause.c z0)) [], .v (.func 57 [.vptr [.str u1x]]) []] (.v (aI r) []) [] := by
  refine FnO.o2 Tryz.func83 (rfl : Tryz.f83.body = some _) ?_
  intro w0 X0 Fin pv0 pb gt
  unfold pslices_IndexFunc___impl_Clause_impl_Clause__on1_pimpl_Known_1 at h
  apply Wc.seq
  refine Wc.r0 ⟨[tV 0 (.sl (List.map GClause.c z0)), tV 1 (.func 57 [.vptr [.str u1x]])], [], []⟩ ?_
  apply Wc.seq
  apply Wc.seq
  refine Wc.r2 [{}, { v := some (aI (z0.length : Int)) }] ⟨[tV 0 (.sl (List.map GClause.c z0)), tV 1 (.func 57 [.vptr [.str u1x]]), tI 7 (z0.length : Int), tI 8 0], [], []⟩ (.cons (len_obl GClause.c z0) .nil) ?_
  obtain ⟨out1, h988, h⟩ := obind h
  refine Wc.lastJ (fun st => out1 = .done () ∧ st = ⟨[], [], []⟩) ?_ ?_
  · refine Wc.block ?_
    refine Wc.loop (fun m st => ∃ (u1m : Int), st = ⟨[tV 0 (.sl (List.map GClause.c z0)), tV 1 (.func 57 [.vptr [.str u1x]]), tI 7 (z0.length : Int), tI 8 u1m], [], []⟩ ∧ pslices_IndexFunc___impl_Clause_impl_Clause__on1_pimpl_Known_1_L1 k z0 u1x m u1m = some out1) ?_ k ⟨_, rfl, h988⟩
    rintro m st ⟨u1m, rfl, h988⟩
    cases m with
    | zero => exact (onone h988).elim
    | succ m =>
      apply Wc.seq
      refine Wc.r0 ⟨[tV 0 (.sl (List.map GClause.c z0)), tV 1 (.func 57 [.vptr [.str u1x]]), tI 7 (z0.length : Int), tI 8 u1m, tB 9 (decide (u1m < (z0.length : Int)))], [], []⟩ ?_
      apply Wc.seq
      rcases oif h988 with ⟨h989, h988⟩ | ⟨h989, h988⟩
      · refine Wc.cT h989 ?_
        refine Wc.fx [] ⟨[tV 0 (.sl (List.map GClause.c z0)), tV 1 (.func 57 [.vptr [.str u1x]]), tI 7 (z0.length : Int), tI 8 u1m], [], []⟩ ?_
        refine Wc.skip ?_
        apply Wc.seq
        refine Wc.block ?_
        apply Wc.seq
        refine Wc.r0 ⟨[tV 0 (.sl (List.map GClause.c z0)), tV 1 (.func 57 [.vptr [.str u1x]]), tI 5 u1m, tI 7 (z0.length : Int), tI 8 u1m], [], []⟩ ?_
        apply Wc.seq
        obtain ⟨ubb, h990, h988⟩ := obind h988
        obtain ⟨uds, h991, h988⟩ := obind h988
        refine Wc.r2 [{}, {}, {}, { v := some (.vptr (GClause.q ubb)) }, {}, { r := some (.v (.bool uds) []) }] ⟨[tV 0 (.sl (List.map GClause.c z0)), tV 1 (.func 57 [.vptr [.str u1x]]), tI 5 u1m, tI 7 (z0.length : Int), tI 8 u1m, tB 16 uds], [], []⟩ (.cons (at_obl (c := GClause.c) (GClause.c_eq ubb) GClause.c_len h990) (.cons (len_ok 9 (GClause.q ubb)) (.cons (cimpl_Known_1 h991) .nil))) ?_
        rcases oif h988 with ⟨h992, h988⟩ | ⟨h992, h988⟩
        · refine Wc.cT h992 ?_
          apply Wc.seq
          refine Wc.r0 ⟨[tI 4 u1m], [], []⟩ ?_
          refine Wc.ret ?_
          obtain rfl := Option.some.inj h988
          obtain rfl := Option.some.inj h
          exact ⟨.inl rfl, by kernel_rfl, by kernel_rfl⟩
        · refine Wc.cF h992 ?_
          refine Wc.fx [] ⟨[tV 0 (.sl (List.map GClause.c z0)), tV 1 (.func 57 [.vptr [.str u1x]]), tI 7 (z0.length : Int), tI 8 u1m], [], []⟩ ?_
          refine Wc.skip ?_
          refine Wc.r0 ⟨[tV 0 (.sl (List.map GClause.c z0)), tV 1 (.func 57 [.vptr [.str u1x]]), tI 7 (z0.length : Int), tI 8 (wr.i64 (u1m + 1))], [], []⟩ ?_
          exact ⟨_, Nat.lt_succ_self _, _, rfl, h988⟩
      · refine Wc.cF h989 ?_
        refine Wc.fx [] ⟨[], [], []⟩ ?_
        refine Wc.exit ?_
        obtain rfl := Option.some.inj h988
        exact ⟨rfl, rfl⟩
  · rintro st ⟨rfl, rfl⟩
    apply Wc.seq
    refine Wc.r0 ⟨[tI 4 (-1)], [], []⟩ ?_
    obtain rfl := Option.some.inj h; exact Wc.ret dn

def pslices_ContainsFunc___impl_Clause_impl_Clause__on1_pimpl_Known_1 (k : Nat) (ubc : List GClause) (ubd : ByteArray) : Option Bool :=
  (pslices_IndexFunc___impl_Clause_impl_Clause__on1_pimpl_Known_1 k ubc ubd).bind fun udt =>
  some (decide (udt ≥ 0))
theorem cslices_ContainsFunc___impl_Clause_impl_Clause__on1_pimpl_Known_1 {k : Nat} {ubc : List GClause} {ubd : ByteArray} {r : Bool} (h : pslices_ContainsFunc___impl_Clause_impl_Clause__on1_pimpl_Known_1 k ubc ubd = some r) : FnO Tryz.prog 56 [.v (.sl (List.map GClause.c ubc)) [], .v (.func 57 [.vptr [.str ubd]]) []] (.v (.bool r) []) [] := by
  refine FnO.o2 Tryz.func56 (rfl : Tryz.f56.body = some _) ?_
  intro w0 X0 Fin pv0 pb gt
  unfold pslices_ContainsFunc___impl_Clause_impl_Clause__on1_pimpl_Known_1 at h
  apply Wc.seq
  refine Wc.r0 ⟨[tV 0 (.sl (List.map GClause.c ubc)), tV 1 (.func 57 [.vptr [.str ubd]])], [], []⟩ ?_
  apply Wc.seq
  obtain ⟨udt, h988, h⟩ := obind h
  refine Wc.r2 [{}, {}, { r := some (.v (aI udt) []) }] ⟨[tB 4 (decide (udt ≥ 0))], [], []⟩ (.cons (cslices_IndexFunc___impl_Clause_impl_Clause__on1_pimpl_Known_1 h988) .nil) ?_
  obtain rfl := Option.some.inj h; exact Wc.ret dn

def pimpl_Known (k : Nat) (u6k : GDb) (u58 : ByteArray) : Option Bool :=
  (pslices_Contains___string_string_ k u6k.gOpen u58).bind fun udu =>
  if udu = true then
    some true
  else
    (pslices_ContainsFunc___impl_Clause_impl_Clause__on1_pimpl_Known_1 k u6k.gClauses u58).bind fun udv =>
    some udv
theorem cimpl_Known {k : Nat} {u6k : GDb} {u58 : ByteArray} {r : Bool} (h : pimpl_Known k u6k u58 = some r) : FnO Tryz.prog 16 [.v (.agg (GDb.q u6k)) [], .v (.str u58) []] (.v (.bool r) []) [] := by
  refine FnO.o2 Tryz.func16 (rfl : Tryz.f16.body = some _) ?_
  intro w0 X0 Fin pv0 pb gt
  unfold pimpl_Known at h
  apply Wc.seq
  refine Wc.r0 ⟨[tP 2 2, tP 3 3], [bC 2 (GDb.q u6k), bC 3 [.str u58]], []⟩ ?_
  apply Wc.seq
  refine Wc.freeze 3 ⟨[tP 2 2, tV 3 (.vptr [.str u58])], [bC 2 (GDb.q u6k)], []⟩ (by kernel_rfl) ?_
  obtain ⟨udu, h986, h⟩ := obind h
  rcases oif h with ⟨h987, h⟩ | ⟨h987, h⟩
  · refine Wc.r2 [{}, {}, {}, { r := some (.v (.bool udu) []) }, { re := some (.bool true) }] ⟨[tB 4 true], [], []⟩ (.cons (len_ok 1 [.str u58]) (.cons (cslices_Contains___string_string_ h986) (.cons (congrArg AV.bool h987) .nil))) ?_
    obtain rfl := Option.some.inj h; exact Wc.ret dn
  · obtain ⟨udv, h988, h⟩ := obind h
    refine Wc.r2 [{}, {}, {}, { r := some (.v (.bool udu) []) }, { re := some (.bool false) }, {}, {}, {}, { r := some (.v (.bool udv) []) }] ⟨[tB 4 udv], [], []⟩ (.cons (len_ok 1 [.str u58]) (.cons (cslices_Contains___string_string_ h986) (.cons (congrArg AV.bool h987) (.cons (cslices_ContainsFunc___impl_Clause_impl_Clause__on1_pimpl_Known_1 h988) .nil)))) ?_
    obtain rfl := Option.some.inj h; exact Wc.ret dn

def pspec_l08ClausesOfRaw_L1 (k : Nat) (zy : GDb) (u0s : ByteArray) : Nat → (List GClause) → Int → Option (Out (List GClause) (List GClause))
  | 0, _, _ => none
  | m + 1, u1b, u1y =>
    if (decide (u1y < (zy.gClauses.length : Int))) = true then
      (at' zy.gClauses u1y).bind fun ube =>
      (pspec_PredOf k ube.gHead).bind fun udw =>
      if (sEq udw u0s) = true then
        (at' zy.gClauses u1y).bind fun u2r =>
        if u1b.length + [u2r].length ≤ 1073741824 then
          pspec_l08ClausesOfRaw_L1 k zy u0s m (u1b ++ [u2r]) (wr.i64 (u1y + 1))
        else none
      else
        pspec_l08ClausesOfRaw_L1 k zy u0s m u1b (wr.i64 (u1y + 1))
    else
      some (.done u1b)
def pspec_l08ClausesOfRaw (k : Nat) (zy : GDb) (u0s : ByteArray) : Option (List GClause) :=
  (pspec_l08ClausesOfRaw_L1 k zy u0s k [] 0).bind fun out1 => match out1 with
  | .ret r => some r
  | .done u87 =>
    some u87
theorem cspec_l08ClausesOfRaw {k : Nat} {zy : GDb} {u0s : ByteArray} {r : (List GClause)} (h : pspec_l08ClausesOfRaw k zy u0s = some r) : FnO Tryz.prog 58 [.v (.agg (GDb.q zy)) [], .v (.str u0s) []] (.v (.sl (List.map GClause.c r)) [(0, .app 35)]) [] := by
  refine FnO.o2 Tryz.func58 (rfl : Tryz.f58.body = some _) ?_
  intro w0 X0 Fin pv0 pb gt
  unfold pspec_l08ClausesOfRaw at h
  apply Wc.seq
  refine Wc.r0 ⟨[tS 1 u0s, tP 2 2], [bC 2 (GDb.q zy)], []⟩ ?_
  apply Wc.seq
  refine Wc.r2 [{ c := some (List.map GClause.c []) }, { tk := [7] }] ⟨[tS 1 u0s, tP 2 2, (5, (.v (.sl (List.map GClause.c [])), [(0, .app 35)]))], [bC 2 (GDb.q zy)], []⟩ (.cons (cl_nil GClause.c) .nil) ?_
  apply Wc.seq
  apply Wc.seq
  refine Wc.r0 ⟨[tS 1 u0s, tP 2 2, (5, (.v (.sl (List.map GClause.c [])), [(0, .app 35)])), tI 6 0], [bC 2 (GDb.q zy)], []⟩ ?_
  obtain ⟨out1, h996, h⟩ := obind h
  refine Wc.lastJ (fun st => ∃ (u87 : List GClause), out1 = .done u87 ∧ st = ⟨[(5, (.v (.sl (List.map GClause.c u87)), [(0, .app 35)]))], [], []⟩) ?_ ?_
  · refine Wc.block ?_
    refine Wc.loop (fun m st => ∃ (u1b : List GClause) (u1y : Int), st = ⟨[tS 1 u0s, tP 2 2, (5, (.v (.sl (List.map GClause.c u1b)), [(0, .app 35)])), tI 6 u1y], [bC 2 (GDb.q zy)], []⟩ ∧ pspec_l08ClausesOfRaw_L1 k zy u0s m u1b u1y = some out1) ?_ k ⟨_, _, rfl, h996⟩
    rintro m st ⟨u1b, u1y, rfl, h996⟩
    cases m with
    | zero => exact (onone h996).elim
    | succ m =>
      apply Wc.seq
      apply Wc.seq
      refine Wc.r2 [{}, {}, {}, { v := some (aI (zy.gClauses.length : Int)) }] ⟨[tS 1 u0s, tP 2 2, (5, (.v (.sl (List.map GClause.c u1b)), [(0, .app 35)])), tI 6 u1y, tB 12 (decide (u1y < (zy.gClauses.length : Int)))], [bC 2 (GDb.q zy)], []⟩ (.cons (len_obl GClause.c zy.gClauses) .nil) ?_
      rcases oif h996 with ⟨h997, h996⟩ | ⟨h997, h996⟩
      · refine Wc.cT h997 ?_
        refine Wc.fx [] ⟨[tS 1 u0s, tP 2 2, (5, (.v (.sl (List.map GClause.c u1b)), [(0, .app 35)])), tI 6 u1y], [bC 2 (GDb.q zy)], []⟩ ?_
        refine Wc.skip ?_
        apply Wc.seq
        refine Wc.block ?_
        apply Wc.seq
        obtain ⟨ube, h998, h996⟩ := obind h996
        obtain ⟨udw, h999, h996⟩ := obind h996
        refine Wc.r2 [{}, {}, {}, { v := some (.vptr (GClause.q ube)) }, {}, {}, { r := some (.v (.str udw) []) }] ⟨[tS 1 u0s, tP 2 2, (5, (.v (.sl (List.map GClause.c u1b)), [(0, .app 35)])), tI 6 u1y, tB 23 (sEq udw u0s)], [bC 2 (GDb.q zy)], []⟩ (.cons (at_obl (c := GClause.c) (GClause.c_eq ube) GClause.c_len h998) (.cons (len_ok 4 (GClause.q ube)) (.cons (cspec_PredOf h999) .nil))) ?_
        rcases oif h996 with ⟨h1000, h996⟩ | ⟨h1000, h996⟩
        · refine Wc.cT h1000 ?_
          obtain ⟨u2r, h1001, h996⟩ := obind h996
          obtain ⟨h1002, h996⟩ := oguard h996
          refine Wc.r2 [{ tk := [5] }, {}, {}, {}, { v := some (.vptr (GClause.q u2r)) }, {}, { c := some (List.map GClause.c [u2r]) }, { c := some (List.map GClause.c (u1b ++ [u2r])), tk := [24] }, { tk := [31] }] ⟨[tS 1 u0s, tP 2 2, (5, (.v (.sl (List.map GClause.c (u1b ++ [u2r]))), [(0, .app 35)])), tI 6 u1y], [bC 2 (GDb.q zy)], []⟩ (.cons (at_obl (c := GClause.c) (GClause.c_eq u2r) GClause.c_len h1001) (.cons (len_ok 9 (GClause.q u2r)) (.cons (cl_cons (c := GClause.c) (x := u2r) (GClause.c_eq u2r) (cl_nil GClause.c)) (.cons (app_re2 GClause.c u1b [u2r]) (.cons (app_leaf (c := GClause.c) (ys := [u2r]) GClause.c_leaf) (.cons (app_obl2 (c := GClause.c) (xs := u1b) (ys := [u2r]) GClause.c_len h1002) .nil)))))) ?_
          refine Wc.r0 ⟨[tS 1 u0s, tP 2 2, (5, (.v (.sl (List.map GClause.c (u1b ++ [u2r]))), [(0, .app 35)])), tI 6 (wr.i64 (u1y + 1))], [bC 2 (GDb.q zy)], []⟩ ?_
          exact ⟨_, Nat.lt_succ_self _, _, _, rfl, h996⟩
        · refine Wc.cF h1000 ?_
          refine Wc.fx [] ⟨[tS 1 u0s, tP 2 2, (5, (.v (.sl (List.map GClause.c u1b)), [(0, .app 35)])), tI 6 u1y], [bC 2 (GDb.q zy)], []⟩ ?_
          refine Wc.skip ?_
          refine Wc.r0 ⟨[tS 1 u0s, tP 2 2, (5, (.v (.sl (List.map GClause.c u1b)), [(0, .app 35)])), tI 6 (wr.i64 (u1y + 1))], [bC 2 (GDb.q zy)], []⟩ ?_
          exact ⟨_, Nat.lt_succ_self _, _, _, rfl, h996⟩
      · refine Wc.cF h997 ?_
        refine Wc.fx [] ⟨[(5, (.v (.sl (List.map GClause.c u1b)), [(0, .app 35)]))], [], []⟩ ?_
        refine Wc.exit ?_
        obtain rfl := Option.some.inj h996
        exact ⟨_, rfl, rfl⟩
  · rintro st ⟨u87, rfl, rfl⟩
    apply Wc.seq
    refine Wc.r1 [{ tk := [5] }, { tk := [32] }] ⟨[(4, (.v (.sl (List.map GClause.c u87)), [(0, .app 35)]))], [], []⟩ ?_
    obtain rfl := Option.some.inj h; exact Wc.ret dn

def pspec_ClausesOf (k : Nat) (ubf : GDb) (ubg : ByteArray) : Option (List GClause) :=
  (pspec_l08ClausesOfRaw k ubf ubg).bind fun udx =>
  (pspec_l34Clauses k udx).bind fun udy =>
  some udy
theorem cspec_ClausesOf {k : Nat} {ubf : GDb} {ubg : ByteArray} {r : (List GClause)} (h : pspec_ClausesOf k ubf ubg = some r) : FnO Tryz.prog 19 [.v (.agg (GDb.q ubf)) [], .v (.str ubg) []] (.v (.sl (List.map GClause.c r)) [(0, .app 35)]) [] := by
  refine FnO.o2 Tryz.func19 (rfl : Tryz.f19.body = some _) ?_
  intro w0 X0 Fin pv0 pb gt
  unfold pspec_ClausesOf at h
  apply Wc.seq
  refine Wc.r0 ⟨[tS 1 ubg, tP 2 2], [bC 2 (GDb.q ubf)], []⟩ ?_
  apply Wc.seq
  obtain ⟨udx, h1005, h⟩ := obind h
  refine Wc.r2 [{}, {}, { r := some (.v (.sl (List.map GClause.c udx)) [(0, .app 35)]) }, { tk := [8] }] ⟨[(5, (.v (.sl (List.map GClause.c udx)), [(0, .app 35)]))], [], []⟩ (.cons (cspec_l08ClausesOfRaw h1005) .nil) ?_
  apply Wc.seq
  obtain ⟨udy, h1006, h⟩ := obind h
  refine Wc.r2 [{ tk := [5] }, { r := some (.v (.sl (List.map GClause.c udy)) [(0, .app 35)]) }, { tk := [10] }] ⟨[(4, (.v (.sl (List.map GClause.c udy)), [(0, .app 35)]))], [], []⟩ (.cons (cspec_l34Clauses h1006) .nil) ?_
  obtain rfl := Option.some.inj h; exact Wc.ret dn

def pspec_Known_L1 (k : Nat) (u09 : GDb) (u0z : ByteArray) : Nat → Int → Option (Out Bool Unit)
  | 0, _ => none
  | m + 1, u3h =>
    if (decide (u3h < (u09.gOpen.length : Int))) = true then
      (at' u09.gOpen u3h).bind fun ubh =>
      if (sEq ubh u0z) = true then
        some (.ret true)
      else
        pspec_Known_L1 k u09 u0z m (wr.i64 (u3h + 1))
    else
      some (.done ())
def pspec_Known (k : Nat) (u09 : GDb) (u0z : ByteArray) : Option Bool :=
  (pspec_Known_L1 k u09 u0z k 0).bind fun out1 => match out1 with
  | .ret r => some r
  | .done () =>
    (pspec_ClausesOf k u09 u0z).bind fun u88 =>
    some (decide ((u88.length : Int) > 0))
theorem cspec_Known {k : Nat} {u09 : GDb} {u0z : ByteArray} {r : Bool} (h : pspec_Known k u09 u0z = some r) : FnO Tryz.prog 17 [.v (.agg (GDb.q u09)) [], .v (.str u0z) []] (.v (.bool r) []) [] := by
  refine FnO.o2 Tryz.func17 (rfl : Tryz.f17.body = some _) ?_
  intro w0 X0 Fin pv0 pb gt
  unfold pspec_Known at h
  apply Wc.seq
  refine Wc.r0 ⟨[tS 1 u0z, tP 2 2], [bC 2 (GDb.q u09)], []⟩ ?_
  apply Wc.seq
  apply Wc.seq
  refine Wc.r0 ⟨[tS 1 u0z, tP 2 2, tI 5 0], [bC 2 (GDb.q u09)], []⟩ ?_
  obtain ⟨out1, h1007, h⟩ := obind h
  refine Wc.lastJ (fun st => out1 = .done () ∧ st = ⟨[tS 1 u0z, tP 2 2], [bC 2 (GDb.q u09)], []⟩) ?_ ?_
  · refine Wc.block ?_
    refine Wc.loop (fun m st => ∃ (u3h : Int), st = ⟨[tS 1 u0z, tP 2 2, tI 5 u3h], [bC 2 (GDb.q u09)], []⟩ ∧ pspec_Known_L1 k u09 u0z m u3h = some out1) ?_ k ⟨_, rfl, h1007⟩
    rintro m st ⟨u3h, rfl, h1007⟩
    cases m with
    | zero => exact (onone h1007).elim
    | succ m =>
      apply Wc.seq
      apply Wc.seq
      refine Wc.r2 [{}, {}, {}, { v := some (aI (u09.gOpen.length : Int)) }] ⟨[tS 1 u0z, tP 2 2, tI 5 u3h, tB 10 (decide (u3h < (u09.gOpen.length : Int)))], [bC 2 (GDb.q u09)], []⟩ (.cons (len_obl cS u09.gOpen) .nil) ?_
      rcases oif h1007 with ⟨h1008, h1007⟩ | ⟨h1008, h1007⟩
      · refine Wc.cT h1008 ?_
        refine Wc.fx [] ⟨[tS 1 u0z, tP 2 2, tI 5 u3h], [bC 2 (GDb.q u09)], []⟩ ?_
        refine Wc.skip ?_
        apply Wc.seq
        refine Wc.block ?_
        apply Wc.seq
        obtain ⟨ubh, h1009, h1007⟩ := obind h1007
        refine Wc.r2 [{}, {}, {}, { v := some (.vptr [.str ubh]) }] ⟨[tS 1 u0z, tP 2 2, tI 5 u3h, tB 19 (sEq ubh u0z)], [bC 2 (GDb.q u09)], []⟩ (.cons (at_obl (c := cS) rfl cS_len h1009) (.cons (len_ok 1 [.str ubh]) .nil)) ?_
        rcases oif h1007 with ⟨h1010, h1007⟩ | ⟨h1010, h1007⟩
        · refine Wc.cT h1010 ?_
          apply Wc.seq
          refine Wc.r0 ⟨[tB 4 true], [], []⟩ ?_
          refine Wc.ret ?_
          obtain rfl := Option.some.inj h1007
          obtain rfl := Option.some.inj h
          exact ⟨.inl rfl, by kernel_rfl, by kernel_rfl⟩
        · refine Wc.cF h1010 ?_
          refine Wc.fx [] ⟨[tS 1 u0z, tP 2 2, tI 5 u3h], [bC 2 (GDb.q u09)], []⟩ ?_
          refine Wc.skip ?_
          refine Wc.r0 ⟨[tS 1 u0z, tP 2 2, tI 5 (wr.i64 (u3h + 1))], [bC 2 (GDb.q u09)], []⟩ ?_
          exact ⟨_, Nat.lt_succ_self _, _, rfl, h1007⟩
      · refine Wc.cF h1008 ?_
        refine Wc.fx [] ⟨[tS 1 u0z, tP 2 2], [bC 2 (GDb.q u09)], []⟩ ?_
        refine Wc.exit ?_
        obtain rfl := Option.some.inj h1007
        exact ⟨rfl, rfl⟩
  · rintro st ⟨rfl, rfl⟩
    apply Wc.seq
    obtain ⟨u88, h1011, h⟩ := obind h
    refine Wc.r2 [{}, {}, { r := some (.v (.sl (List.map GClause.c u88)) [(0, .app 35)]) }, { v := some (aI (u88.length : Int)) }] ⟨[tB 4 (decide ((u88.length : Int) > 0))], [], []⟩ (.cons (cspec_ClausesOf h1011) (.cons (len_obl GClause.c u88) .nil)) ?_
    obtain rfl := Option.some.inj h; exact Wc.ret dn

def pimpl_ClausesOf_L1 (k : Nat) (vb : GDb) (u0n : ByteArray) : Nat → (List GClause) → Int → Option (Out (List GClause) (List GClause))
  | 0, _, _ => none
  | m + 1, u10, u1z =>
    if (decide (u1z < (vb.gClauses.length : Int))) = true then
      (at' vb.gClauses u1z).bind fun u5q =>
      (pimpl_PredOf k u5q.gHead).bind fun udz =>
      if (sEq udz u0n) = true then
        (pimpl_copyClause k u5q).bind fun u3i =>
        if u10.length + [u3i].length ≤ 1073741824 then
          pimpl_ClausesOf_L1 k vb u0n m (u10 ++ [u3i]) (wr.i64 (u1z + 1))
        else none
      else
        pimpl_ClausesOf_L1 k vb u0n m u10 (wr.i64 (u1z + 1))
    else
      some (.done u10)
def pimpl_ClausesOf (k : Nat) (vb : GDb) (u0n : ByteArray) : Option (List GClause) :=
  (pimpl_ClausesOf_L1 k vb u0n k [] 0).bind fun out1 => match out1 with
  | .ret r => some r
  | .done u89 =>
    some u89
theorem cimpl_ClausesOf {k : Nat} {vb : GDb} {u0n : ByteArray} {r : (List GClause)} (h : pimpl_ClausesOf k vb u0n = some r) : FnO Tryz.prog 18 [.v (.agg (GDb.q vb)) [], .v (.str u0n) []] (.v (.sl (List.map GClause.c r)) [(0, .app 35)]) [] := by
  refine FnO.o2 Tryz.func18 (rfl : Tryz.f18.body = some _) ?_
  intro w0 X0 Fin pv0 pb gt
  unfold pimpl_ClausesOf at h
  apply Wc.seq
  refine Wc.r0 ⟨[tS 1 u0n, tP 2 2], [bC 2 (GDb.q vb)], []⟩ ?_
  apply Wc.seq
  refine Wc.r0 ⟨[tS 1 u0n, tP 2 2, (5, (.v (.sl (List.map GClause.c [])), [(0, .app 35)]))], [bC 2 (GDb.q vb)], []⟩ ?_
  apply Wc.seq
  apply Wc.seq
  refine Wc.r2 [{}, {}, { v := some (aI (vb.gClauses.length : Int)) }] ⟨[tS 1 u0n, (5, (.v (.sl (List.map GClause.c [])), [(0, .app 35)])), tV 9 (.sl (List.map GClause.c vb.gClauses)), tI 10 (vb.gClauses.length : Int), tI 11 0], [], []⟩ (.cons (len_obl GClause.c vb.gClauses) .nil) ?_
  obtain ⟨out1, h1019, h⟩ := obind h
  refine Wc.lastJ (fun st => ∃ (u89 : List GClause), out1 = .done u89 ∧ st = ⟨[(5, (.v (.sl (List.map GClause.c u89)), [(0, .app 35)]))], [], []⟩) ?_ ?_
  · refine Wc.block ?_
    refine Wc.loop (fun m st => ∃ (u10 : List GClause) (u1z : Int), st = ⟨[tS 1 u0n, (5, (.v (.sl (List.map GClause.c u10)), [(0, .app 35)])), tV 9 (.sl (List.map GClause.c vb.gClauses)), tI 10 (vb.gClauses.length : Int), tI 11 u1z], [], []⟩ ∧ pimpl_ClausesOf_L1 k vb u0n m u10 u1z = some out1) ?_ k ⟨_, _, rfl, h1019⟩
    rintro m st ⟨u10, u1z, rfl, h1019⟩
    cases m with
    | zero => exact (onone h1019).elim
    | succ m =>
      apply Wc.seq
      refine Wc.r0 ⟨[tS 1 u0n, (5, (.v (.sl (List.map GClause.c u10)), [(0, .app 35)])), tV 9 (.sl (List.map GClause.c vb.gClauses)), tI 10 (vb.gClauses.length : Int), tI 11 u1z, tB 12 (decide (u1z < (vb.gClauses.length : Int)))], [], []⟩ ?_
      apply Wc.seq
      rcases oif h1019 with ⟨h1020, h1019⟩ | ⟨h1020, h1019⟩
      · refine Wc.cT h1020 ?_
        refine Wc.fx [] ⟨[tS 1 u0n, (5, (.v (.sl (List.map GClause.c u10)), [(0, .app 35)])), tV 9 (.sl (List.map GClause.c vb.gClauses)), tI 10 (vb.gClauses.length : Int), tI 11 u1z], [], []⟩ ?_
        refine Wc.skip ?_
        apply Wc.seq
        refine Wc.block ?_
        apply Wc.seq
        obtain ⟨u5q, h1021, h1019⟩ := obind h1019
        refine Wc.r2 [{ v := some (.vptr (GClause.q u5q)) }] ⟨[tS 1 u0n, (5, (.v (.sl (List.map GClause.c u10)), [(0, .app 35)])), tP 7 7, tV 9 (.sl (List.map GClause.c vb.gClauses)), tI 10 (vb.gClauses.length : Int), tI 11 u1z], [bC 7 (GClause.q u5q)], []⟩ (.cons (at_obl (c := GClause.c) (GClause.c_eq u5q) GClause.c_len h1021) (.cons (len_ok 9 (GClause.q u5q)) .nil)) ?_
        apply Wc.seq
        obtain ⟨udz, h1022, h1019⟩ := obind h1019
        refine Wc.r2 [{}, {}, { r := some (.v (.str udz) []) }] ⟨[tS 1 u0n, (5, (.v (.sl (List.map GClause.c u10)), [(0, .app 35)])), tP 7 7, tV 9 (.sl (List.map GClause.c vb.gClauses)), tI 10 (vb.gClauses.length : Int), tI 11 u1z, tB 19 (sEq udz u0n)], [bC 7 (GClause.q u5q)], []⟩ (.cons (cimpl_PredOf h1022) .nil) ?_
        rcases oif h1019 with ⟨h1023, h1019⟩ | ⟨h1023, h1019⟩
        · refine Wc.cT h1023 ?_
          obtain ⟨u3i, h1024, h1019⟩ := obind h1019
          obtain ⟨h1025, h1019⟩ := oguard h1019
          refine Wc.r2 [{ tk := [5] }, {}, { r := some (.v (.agg (GClause.q u3i)) [(3, .app 31), (7, .app 31)]) }, { c := some (List.map GClause.c [u3i]) }, { c := some (List.map GClause.c (u10 ++ [u3i])), tk := [20] }, { tk := [24] }] ⟨[tS 1 u0n, (5, (.v (.sl (List.map GClause.c (u10 ++ [u3i]))), [(0, .app 35)])), tV 9 (.sl (List.map GClause.c vb.gClauses)), tI 10 (vb.gClauses.length : Int), tI 11 u1z], [], []⟩ (.cons (cimpl_copyClause h1024) (.cons (cl_cons (c := GClause.c) (x := u3i) (GClause.c_eq u3i) (cl_nil GClause.c)) (.cons (app_re2 GClause.c u10 [u3i]) (.cons (app_leaf (c := GClause.c) (ys := [u3i]) GClause.c_leaf) (.cons (app_obl2 (c := GClause.c) (xs := u10) (ys := [u3i]) GClause.c_len h1025) .nil))))) ?_
          refine Wc.r0 ⟨[tS 1 u0n, (5, (.v (.sl (List.map GClause.c (u10 ++ [u3i]))), [(0, .app 35)])), tV 9 (.sl (List.map GClause.c vb.gClauses)), tI 10 (vb.gClauses.length : Int), tI 11 (wr.i64 (u1z + 1))], [], []⟩ ?_
          exact ⟨_, Nat.lt_succ_self _, _, _, rfl, h1019⟩
        · refine Wc.cF h1023 ?_
          refine Wc.fx [] ⟨[tS 1 u0n, (5, (.v (.sl (List.map GClause.c u10)), [(0, .app 35)])), tV 9 (.sl (List.map GClause.c vb.gClauses)), tI 10 (vb.gClauses.length : Int), tI 11 u1z], [], []⟩ ?_
          refine Wc.skip ?_
          refine Wc.r0 ⟨[tS 1 u0n, (5, (.v (.sl (List.map GClause.c u10)), [(0, .app 35)])), tV 9 (.sl (List.map GClause.c vb.gClauses)), tI 10 (vb.gClauses.length : Int), tI 11 (wr.i64 (u1z + 1))], [], []⟩ ?_
          exact ⟨_, Nat.lt_succ_self _, _, _, rfl, h1019⟩
      · refine Wc.cF h1020 ?_
        refine Wc.fx [] ⟨[(5, (.v (.sl (List.map GClause.c u10)), [(0, .app 35)]))], [], []⟩ ?_
        refine Wc.exit ?_
        obtain rfl := Option.some.inj h1019
        exact ⟨_, rfl, rfl⟩
  · rintro st ⟨u89, rfl, rfl⟩
    apply Wc.seq
    refine Wc.r1 [{ tk := [5] }, { tk := [26] }] ⟨[(4, (.v (.sl (List.map GClause.c u89)), [(0, .app 35)]))], [], []⟩ ?_
    obtain rfl := Option.some.inj h; exact Wc.ret dn

def pimpl_Opened_J1 (k : Nat) (u0a : GDb) (u0b : ByteArray) (ubi : Bool) : Option GDb :=
  if ubi = true then
    if u0a.gOpen.length + [u0b].length ≤ 1073741824 then
      some (GDb.mk u0a.gClauses (u0a.gOpen ++ [u0b]))
    else none
  else
    some u0a
def pimpl_Opened (k : Nat) (u3w : GDb) (u0b : ByteArray) : Option GDb :=
  (pimpl_copyDb k u3w).bind fun u0a =>
  if (decide ((u3w.gOpen.length : Int) < 40)) = true then
    (pslices_Contains___string_string_ k u3w.gOpen u0b).bind fun ue0 =>
    pimpl_Opened_J1 k u0a u0b (!ue0)
  else
    pimpl_Opened_J1 k u0a u0b false
theorem cimpl_Opened {k : Nat} {u3w : GDb} {u0b : ByteArray} {r : GDb} (h : pimpl_Opened k u3w u0b = some r) : FnO Tryz.prog 20 [.v (.agg (GDb.q u3w)) [], .v (.str u0b) []] (.v (.agg (GDb.q r)) [(0, .app 35), (1, .app 9)]) [] := by
  refine FnO.o2 Tryz.func20 (rfl : Tryz.f20.body = some _) ?_
  intro w0 X0 Fin pv0 pb gt
  unfold pimpl_Opened at h
  apply Wc.seq
  refine Wc.r0 ⟨[tS 1 u0b, tP 2 2, tP 4 4], [bC 2 (GDb.q u3w), (4, .cells GDb.z [(0, .app 35), (1, .app 9)])], []⟩ ?_
  apply Wc.seq
  obtain ⟨u0a, h1031, h⟩ := obind h
  refine Wc.r2 [{}, { r := some (.v (.agg (GDb.q u0a)) [(0, .app 35), (1, .app 9)]) }, {}, { tk := [7] }] ⟨[tS 1 u0b, tP 2 2, tP 4 4, tP 5 5], [bC 2 (GDb.q u3w), (4, .cells GDb.z [(0, .app 35), (1, .app 9)]), (5, .cells (GDb.q u0a) [(0, .app 35), (1, .app 9)])], []⟩ (.cons (cimpl_copyDb h1031) .nil) ?_
  apply Wc.seq
  refine Wc.seqJ (fun st => ∃ (ubi : Bool), st = ⟨[tS 1 u0b, tP 4 4, tP 5 5, tB 18 ubi], [(4, .cells GDb.z [(0, .app 35), (1, .app 9)]), (5, .cells (GDb.q u0a) [(0, .app 35), (1, .app 9)])], []⟩ ∧ pimpl_Opened_J1 k u0a u0b ubi = some r) ?_ ?_
  · rcases oif h with ⟨h1034, h⟩ | ⟨h1034, h⟩
    · obtain ⟨ue0, h1035, h⟩ := obind h
      refine Wc.r2 [{}, {}, { v := some (aI (u3w.gOpen.length : Int)) }, {}, { re := some (.bool true) }, {}, {}, {}, { r := some (.v (.bool ue0) []) }] ⟨[tS 1 u0b, tP 4 4, tP 5 5, tB 18 (!ue0)], [(4, .cells GDb.z [(0, .app 35), (1, .app 9)]), (5, .cells (GDb.q u0a) [(0, .app 35), (1, .app 9)])], []⟩ (.cons (len_obl cS u3w.gOpen) (.cons (congrArg AV.bool h1034) (.cons (cslices_Contains___string_string_ h1035) .nil))) ?_
      exact ⟨_, rfl, h⟩
    · refine Wc.r2 [{}, {}, { v := some (aI (u3w.gOpen.length : Int)) }, {}, { re := some (.bool false) }] ⟨[tS 1 u0b, tP 4 4, tP 5 5, tB 18 false], [(4, .cells GDb.z [(0, .app 35), (1, .app 9)]), (5, .cells (GDb.q u0a) [(0, .app 35), (1, .app 9)])], []⟩ (.cons (len_obl cS u3w.gOpen) (.cons (congrArg AV.bool h1034) .nil)) ?_
      exact ⟨_, rfl, h⟩
  · rintro st ⟨ubi, rfl, h⟩
    rcases oif h with ⟨h1032, h⟩ | ⟨h1032, h⟩
    · refine Wc.cT h1032 ?_
      obtain ⟨h1033, h⟩ := oguard h
      refine Wc.r2 [{}, { md := 1 }, {}, { c := some (List.map cS [u0b]) }, { c := some (List.map cS (u0a.gOpen ++ [u0b])), tk := [20] }, {}, { tk := [23] }] ⟨[tP 4 4, tP 5 5], [(4, .cells GDb.z [(0, .app 35), (1, .app 9)]), (5, .cells [.sl (List.map GClause.c u0a.gClauses), .sl (List.map cS (u0a.gOpen ++ [u0b]))] [(0, .app 35), (1, .app 9)])], []⟩ (.cons (cl_cons (c := cS) (x := u0b) rfl (cl_nil cS)) (.cons (app_re2 cS u0a.gOpen [u0b]) (.cons (app_leaf (c := cS) (ys := [u0b]) cS_leaf) (.cons (app_obl2 (c := cS) (xs := u0a.gOpen) (ys := [u0b]) cS_len h1033) .nil)))) ?_
      apply Wc.seq
      refine Wc.r1 [{ md := 1 }, { tk := [25] }] ⟨[tP 4 4], [(4, .cells [.sl (List.map GClause.c u0a.gClauses), .sl (List.map cS (u0a.gOpen ++ [u0b]))] [(0, .app 35), (1, .app 9)])], []⟩ ?_
      obtain rfl := Option.some.inj h; exact Wc.ret dn
    · refine Wc.cF h1032 ?_
      refine Wc.fx [] ⟨[tP 4 4, tP 5 5], [(4, .cells GDb.z [(0, .app 35), (1, .app 9)]), (5, .cells (GDb.q u0a) [(0, .app 35), (1, .app 9)])], []⟩ ?_
      refine Wc.skip ?_
      apply Wc.seq
      refine Wc.r1 [{ md := 1 }, { tk := [25] }] ⟨[tP 4 4], [(4, .cells (GDb.q u0a) [(0, .app 35), (1, .app 9)])], []⟩ ?_
      obtain rfl := Option.some.inj h; exact Wc.ret dn

def pimpl_ClauseTerm (k : Nat) (u8a : GClause) : Option GTerm :=
  (pimpl_copyTerm k u8a.gHead).bind fun u8b =>
  (pimpl_copyTerm k u8a.gBody).bind fun u8c =>
  (pimpl_structure k (bs [58, 45]) [u8b, u8c]).bind fun ue1 =>
  some ue1
theorem cimpl_ClauseTerm {k : Nat} {u8a : GClause} {r : GTerm} (h : pimpl_ClauseTerm k u8a = some r) : FnO Tryz.prog 28 [.v (.agg (GClause.q u8a)) []] (.v (.agg (GTerm.q r)) []) [] := by
  refine FnO.o2 Tryz.func28 (rfl : Tryz.f28.body = some _) ?_
  intro w0 X0 Fin pv0 pb gt
  unfold pimpl_ClauseTerm at h
  apply Wc.seq
  refine Wc.r0 ⟨[tP 1 1, tP 2 2], [bC 1 (GClause.q u8a), (2, .cells GTerm.z [(3, .app 31)])], []⟩ ?_
  apply Wc.seq
  obtain ⟨u8b, h1036, h⟩ := obind h
  obtain ⟨u8c, h1037, h⟩ := obind h
  obtain ⟨ue1, h1038, h⟩ := obind h
  refine Wc.draw hmix [{}, {}, { r := some (.v (.agg (GTerm.q u8b)) [(3, .app 31)]) }, {}, {}, { r := some (.v (.agg (GTerm.q u8c)) [(3, .app 31)]) }, { c := some (List.map GTerm.c [u8b, u8c]) }, { r := some (.v (.agg (GTerm.q ue1)) []) }] [] [2] [2] [] ⟨[tP 2 2], [bC 2 (GTerm.q ue1)], []⟩ _ (by kernel_rfl) (fun X => by kernel_rfl) (.cons (cimpl_copyTerm h1036) (.cons (cimpl_copyTerm h1037) (.cons (cl_cons (c := GTerm.c) (x := u8b) (GTerm.c_eq u8b) (cl_cons (c := GTerm.c) (x := u8c) (GTerm.c_eq u8c) (cl_nil GTerm.c))) (.cons (cimpl_structure h1038) .nil)))) ?_
  obtain rfl := Option.some.inj h; exact Wc.ret dn

abbrev plaws_FnClauses_Z12 (uj : GTerm × ByteArray) (u5 : GClause × Bool) (uc : GClause × Bool) (uq : GDb × Bool) (ur : GDb × Bool) (u8 : GDb × ByteArray) (um : GDb) (uz : GDb × GClause) (vf : GTerm) : St := ⟨[tP 3 3, tS 5 uj.2, tP 6 6, tB 7 u5.2, tP 8 8, tB 9 uc.2, tP 10 10, tP 12 12, tB 13 uq.2, tP 14 14, tB 15 ur.2, tP 16 16, tS 17 u8.2, tP 18 18], [(3, .cells (GDb.q um) [(0, .app 35), (1, .app 9)]), (6, .cells (GClause.q u5.1) [(3, .app 31), (7, .app 31)]), (8, .cells (GClause.q uc.1) [(3, .app 31), (7, .app 31)]), (10, .cells (GDb.q uz.1) [(0, .app 35)]), (12, .cells (GDb.q uq.1) [(0, .app 35), (1, .app 9)]), (14, .cells (GDb.q ur.1) [(0, .app 35), (1, .app 9)]), (16, .cells (GDb.q u8.1) [(0, .app 35)]), (18, .cells (GTerm.q vf) [(3, .app 31)])], []⟩
theorem plaws_FnClauses_D12 (k : Nat) {u5 : GClause × Bool} {uc : GClause × Bool} {uj : GTerm × ByteArray} {uq : GDb × Bool} {ur : GDb × Bool} {u8 : GDb × ByteArray} {um : GDb} {uz : GDb × GClause} {vf : GTerm} (h1050 : (!(u5.2 == uc.2)) = true) : DrawOk Tryz.prog Tryz.f3.ntmps (regOps 12 Tryz.f3) [{}, {}, {}, { re := some (.bool true) }] [] (plaws_FnClauses_Z12 uj u5 uc uq ur u8 um uz vf) [3, 5, 6, 7, 149] [3, 6] [] ⟨[tP 3 3, tS 5 uj.2, tP 6 6, tB 7 u5.2, tB 149 true], [(3, .cells (GDb.q um) [(0, .app 35), (1, .app 9)]), (6, .cells (GClause.q u5.1) [(3, .app 31), (7, .app 31)])], []⟩ :=
  ⟨_, by kernel_rfl, (.cons (congrArg AV.bool h1050) .nil), fun X => by kernel_rfl⟩
theorem plaws_FnClauses_D13 (k : Nat) {u5 : GClause × Bool} {uc : GClause × Bool} {v0 : Bool} {uj : GTerm × ByteArray} {uq : GDb × Bool} {ur : GDb × Bool} {u8 : GDb × ByteArray} {um : GDb} {uz : GDb × GClause} {vf : GTerm} (h1050 : (!(u5.2 == uc.2)) = false) (h1051 : pspec_SameTerm k u5.1.gHead uc.1.gHead = some v0) (h1052 : (!v0) = true) : DrawOk Tryz.prog Tryz.f3.ntmps (regOps 12 Tryz.f3) [{}, {}, {}, { re := some (.bool false) }, {}, {}, {}, {}, { r := some (.v (.bool v0) []) }, {}, {}, { re := some (.bool true) }] [] (plaws_FnClauses_Z12 uj u5 uc uq ur u8 um uz vf) [3, 5, 6, 7, 149] [3, 6] [] ⟨[tP 3 3, tS 5 uj.2, tP 6 6, tB 7 u5.2, tB 149 true], [(3, .cells (GDb.q um) [(0, .app 35), (1, .app 9)]), (6, .cells (GClause.q u5.1) [(3, .app 31), (7, .app 31)])], []⟩ :=
  ⟨_, by kernel_rfl, (.cons (congrArg AV.bool h1050) (.cons (cspec_SameTerm h1051) (.cons (congrArg AV.bool h1052) .nil))), fun X => by kernel_rfl⟩
theorem plaws_FnClauses_D14 (k : Nat) {u5 : GClause × Bool} {uc : GClause × Bool} {v0 : Bool} {v5 : Bool} {uj : GTerm × ByteArray} {uq : GDb × Bool} {ur : GDb × Bool} {u8 : GDb × ByteArray} {um : GDb} {uz : GDb × GClause} {vf : GTerm} (h1050 : (!(u5.2 == uc.2)) = false) (h1051 : pspec_SameTerm k u5.1.gHead uc.1.gHead = some v0) (h1052 : (!v0) = false) (h1053 : pspec_SameTerm k u5.1.gBody uc.1.gBody = some v5) (h1054 : (!v5) = true) : DrawOk Tryz.prog Tryz.f3.ntmps (regOps 12 Tryz.f3) [{}, {}, {}, { re := some (.bool false) }, {}, {}, {}, {}, { r := some (.v (.bool v0) []) }, {}, {}, { re := some (.bool false) }, {}, {}, {}, {}, { r := some (.v (.bool v5) []) }, {}, {}, { re := some (.bool true) }] [] (plaws_FnClauses_Z12 uj u5 uc uq ur u8 um uz vf) [3, 5, 6, 7, 149] [3, 6] [] ⟨[tP 3 3, tS 5 uj.2, tP 6 6, tB 7 u5.2, tB 149 true], [(3, .cells (GDb.q um) [(0, .app 35), (1, .app 9)]), (6, .cells (GClause.q u5.1) [(3, .app 31), (7, .app 31)])], []⟩ :=
  ⟨_, by kernel_rfl, (.cons (congrArg AV.bool h1050) (.cons (cspec_SameTerm h1051) (.cons (congrArg AV.bool h1052) (.cons (cspec_SameTerm h1053) (.cons (congrArg AV.bool h1054) .nil))))), fun X => by kernel_rfl⟩
theorem plaws_FnClauses_D15 (k : Nat) {u5 : GClause × Bool} {uc : GClause × Bool} {v0 : Bool} {v5 : Bool} {uq : GDb × Bool} {ur : GDb × Bool} {uj : GTerm × ByteArray} {u8 : GDb × ByteArray} {um : GDb} {uz : GDb × GClause} {vf : GTerm} (h1050 : (!(u5.2 == uc.2)) = false) (h1051 : pspec_SameTerm k u5.1.gHead uc.1.gHead = some v0) (h1052 : (!v0) = false) (h1053 : pspec_SameTerm k u5.1.gBody uc.1.gBody = some v5) (h1054 : (!v5) = false) (h1055 : (!(uq.2 == ur.2)) = true) : DrawOk Tryz.prog Tryz.f3.ntmps (regOps 12 Tryz.f3) [{}, {}, {}, { re := some (.bool false) }, {}, {}, {}, {}, { r := some (.v (.bool v0) []) }, {}, {}, { re := some (.bool false) }, {}, {}, {}, {}, { r := some (.v (.bool v5) []) }, {}, {}, { re := some (.bool false) }, {}, {}, {}, {}, { re := some (.bool true) }] [] (plaws_FnClauses_Z12 uj u5 uc uq ur u8 um uz vf) [3, 5, 6, 7, 149] [3, 6] [] ⟨[tP 3 3, tS 5 uj.2, tP 6 6, tB 7 u5.2, tB 149 true], [(3, .cells (GDb.q um) [(0, .app 35), (1, .app 9)]), (6, .cells (GClause.q u5.1) [(3, .app 31), (7, .app 31)])], []⟩ :=
  ⟨_, by kernel_rfl, (.cons (congrArg AV.bool h1050) (.cons (cspec_SameTerm h1051) (.cons (congrArg AV.bool h1052) (.cons (cspec_SameTerm h1053) (.cons (congrArg AV.bool h1054) (.cons (congrArg AV.bool h1055) .nil)))))), fun X => by kernel_rfl⟩
theorem plaws_FnClauses_D16 (k : Nat) {u5 : GClause × Bool} {uc : GClause × Bool} {v0 : Bool} {v5 : Bool} {uq : GDb × Bool} {ur : GDb × Bool} {vt : Bool} {uj : GTerm × ByteArray} {u8 : GDb × ByteArray} {um : GDb} {uz : GDb × GClause} {vf : GTerm} (h1050 : (!(u5.2 == uc.2)) = false) (h1051 : pspec_SameTerm k u5.1.gHead uc.1.gHead = some v0) (h1052 : (!v0) = false) (h1053 : pspec_SameTerm k u5.1.gBody uc.1.gBody = some v5) (h1054 : (!v5) = false) (h1055 : (!(uq.2 == ur.2)) = false) (h1056 : plaws_sameDb k uq.1 ur.1 = some vt) (h1057 : (!vt) = true) : DrawOk Tryz.prog Tryz.f3.ntmps (regOps 12 Tryz.f3) [{}, {}, {}, { re := some (.bool false) }, {}, {}, {}, {}, { r := some (.v (.bool v0) []) }, {}, {}, { re := some (.bool false) }, {}, {}, {}, {}, { r := some (.v (.bool v5) []) }, {}, {}, { re := some (.bool false) }, {}, {}, {}, {}, { re := some (.bool false) }, {}, {}, { r := some (.v (.bool vt) []) }, {}, {}, { re := some (.bool true) }] [] (plaws_FnClauses_Z12 uj u5 uc uq ur u8 um uz vf) [3, 5, 6, 7, 149] [3, 6] [] ⟨[tP 3 3, tS 5 uj.2, tP 6 6, tB 7 u5.2, tB 149 true], [(3, .cells (GDb.q um) [(0, .app 35), (1, .app 9)]), (6, .cells (GClause.q u5.1) [(3, .app 31), (7, .app 31)])], []⟩ :=
  ⟨_, by kernel_rfl, (.cons (congrArg AV.bool h1050) (.cons (cspec_SameTerm h1051) (.cons (congrArg AV.bool h1052) (.cons (cspec_SameTerm h1053) (.cons (congrArg AV.bool h1054) (.cons (congrArg AV.bool h1055) (.cons (claws_sameDb h1056) (.cons (congrArg AV.bool h1057) .nil)))))))), fun X => by kernel_rfl⟩
theorem plaws_FnClauses_D17 (k : Nat) {u5 : GClause × Bool} {uc : GClause × Bool} {v0 : Bool} {v5 : Bool} {uq : GDb × Bool} {ur : GDb × Bool} {vt : Bool} {u8 : GDb × ByteArray} {zp : Bool} {zq : Bool} {uj : GTerm × ByteArray} {um : GDb} {uz : GDb × GClause} {vf : GTerm} (h1050 : (!(u5.2 == uc.2)) = false) (h1051 : pspec_SameTerm k u5.1.gHead uc.1.gHead = some v0) (h1052 : (!v0) = false) (h1053 : pspec_SameTerm k u5.1.gBody uc.1.gBody = some v5) (h1054 : (!v5) = false) (h1055 : (!(uq.2 == ur.2)) = false) (h1056 : plaws_sameDb k uq.1 ur.1 = some vt) (h1057 : (!vt) = false) (h1058 : pimpl_Known k u8.1 u8.2 = some zp) (h1059 : pspec_Known k u8.1 u8.2 = some zq) (h1060 : (!(zp == zq)) = true) : DrawOk Tryz.prog Tryz.f3.ntmps (regOps 12 Tryz.f3) [{}, {}, {}, { re := some (.bool false) }, {}, {}, {}, {}, { r := some (.v (.bool v0) []) }, {}, {}, { re := some (.bool false) }, {}, {}, {}, {}, { r := some (.v (.bool v5) []) }, {}, {}, { re := some (.bool false) }, {}, {}, {}, {}, { re := some (.bool false) }, {}, {}, { r := some (.v (.bool vt) []) }, {}, {}, { re := some (.bool false) }, {}, {}, { r := some (.v (.bool zp) []) }, {}, {}, { r := some (.v (.bool zq) []) }, {}, {}, { re := some (.bool true) }] [] (plaws_FnClauses_Z12 uj u5 uc uq ur u8 um uz vf) [3, 5, 6, 7, 149] [3, 6] [] ⟨[tP 3 3, tS 5 uj.2, tP 6 6, tB 7 u5.2, tB 149 true], [(3, .cells (GDb.q um) [(0, .app 35), (1, .app 9)]), (6, .cells (GClause.q u5.1) [(3, .app 31), (7, .app 31)])], []⟩ :=
  ⟨_, by kernel_rfl, (.cons (congrArg AV.bool h1050) (.cons (cspec_SameTerm h1051) (.cons (congrArg AV.bool h1052) (.cons (cspec_SameTerm h1053) (.cons (congrArg AV.bool h1054) (.cons (congrArg AV.bool h1055) (.cons (claws_sameDb h1056) (.cons (congrArg AV.bool h1057) (.cons (cimpl_Known h1058) (.cons (cspec_Known h1059) (.cons (congrArg AV.bool h1060) .nil))))))))))), fun X => by kernel_rfl⟩
theorem plaws_FnClauses_D18 (k : Nat) {u5 : GClause × Bool} {uc : GClause × Bool} {v0 : Bool} {v5 : Bool} {uq : GDb × Bool} {ur : GDb × Bool} {vt : Bool} {u8 : GDb × ByteArray} {zp : Bool} {zq : Bool} {vk : (List GClause)} {vl : (List GClause)} {uj : GTerm × ByteArray} {um : GDb} {uz : GDb × GClause} {vf : GTerm} (h1050 : (!(u5.2 == uc.2)) = false) (h1051 : pspec_SameTerm k u5.1.gHead uc.1.gHead = some v0) (h1052 : (!v0) = false) (h1053 : pspec_SameTerm k u5.1.gBody uc.1.gBody = some v5) (h1054 : (!v5) = false) (h1055 : (!(uq.2 == ur.2)) = false) (h1056 : plaws_sameDb k uq.1 ur.1 = some vt) (h1057 : (!vt) = false) (h1058 : pimpl_Known k u8.1 u8.2 = some zp) (h1059 : pspec_Known k u8.1 u8.2 = some zq) (h1060 : (!(zp == zq)) = false) (h1061 : pimpl_ClausesOf k u8.1 u8.2 = some vk) (h1062 : pspec_ClausesOf k u8.1 u8.2 = some vl) (h1063 : ((vk.length : Int) != (vl.length : Int)) = true) : DrawOk Tryz.prog Tryz.f3.ntmps (regOps 12 Tryz.f3) [{}, {}, {}, { re := some (.bool false) }, {}, {}, {}, {}, { r := some (.v (.bool v0) []) }, {}, {}, { re := some (.bool false) }, {}, {}, {}, {}, { r := some (.v (.bool v5) []) }, {}, {}, { re := some (.bool false) }, {}, {}, {}, {}, { re := some (.bool false) }, {}, {}, { r := some (.v (.bool vt) []) }, {}, {}, { re := some (.bool false) }, {}, {}, { r := some (.v (.bool zp) []) }, {}, {}, { r := some (.v (.bool zq) []) }, {}, {}, { re := some (.bool false) }, {}, {}, { r := some (.v (.sl (List.map GClause.c vk)) [(0, .app 35)]) }, { v := some (aI (vk.length : Int)) }, {}, {}, { r := some (.v (.sl (List.map GClause.c vl)) [(0, .app 35)]) }, { v := some (aI (vl.length : Int)) }, {}, {}, { re := some (.bool true) }] [] (plaws_FnClauses_Z12 uj u5 uc uq ur u8 um uz vf) [3, 5, 6, 7, 149] [3, 6] [] ⟨[tP 3 3, tS 5 uj.2, tP 6 6, tB 7 u5.2, tB 149 true], [(3, .cells (GDb.q um) [(0, .app 35), (1, .app 9)]), (6, .cells (GClause.q u5.1) [(3, .app 31), (7, .app 31)])], []⟩ :=
  ⟨_, by kernel_rfl, (.cons (congrArg AV.bool h1050) (.cons (cspec_SameTerm h1051) (.cons (congrArg AV.bool h1052) (.cons (cspec_SameTerm h1053) (.cons (congrArg AV.bool h1054) (.cons (congrArg AV.bool h1055) (.cons (claws_sameDb h1056) (.cons (congrArg AV.bool h1057) (.cons (cimpl_Known h1058) (.cons (cspec_Known h1059) (.cons (congrArg AV.bool h1060) (.cons (cimpl_ClausesOf h1061) (.cons (len_obl GClause.c vk) (.cons (cspec_ClausesOf h1062) (.cons (len_obl GClause.c vl) (.cons (congrArg AV.bool h1063) .nil)))))))))))))))), fun X => by kernel_rfl⟩
theorem plaws_FnClauses_D19 (k : Nat) {u5 : GClause × Bool} {uc : GClause × Bool} {v0 : Bool} {v5 : Bool} {uq : GDb × Bool} {ur : GDb × Bool} {vt : Bool} {u8 : GDb × ByteArray} {zp : Bool} {zq : Bool} {vk : (List GClause)} {vl : (List GClause)} {u1n : GDb} {u1o : GDb} {u1p : Bool} {uj : GTerm × ByteArray} {um : GDb} {uz : GDb × GClause} {vf : GTerm} (h1050 : (!(u5.2 == uc.2)) = false) (h1051 : pspec_SameTerm k u5.1.gHead uc.1.gHead = some v0) (h1052 : (!v0) = false) (h1053 : pspec_SameTerm k u5.1.gBody uc.1.gBody = some v5) (h1054 : (!v5) = false) (h1055 : (!(uq.2 == ur.2)) = false) (h1056 : plaws_sameDb k uq.1 ur.1 = some vt) (h1057 : (!vt) = false) (h1058 : pimpl_Known k u8.1 u8.2 = some zp) (h1059 : pspec_Known k u8.1 u8.2 = some zq) (h1060 : (!(zp == zq)) = false) (h1061 : pimpl_ClausesOf k u8.1 u8.2 = some vk) (h1062 : pspec_ClausesOf k u8.1 u8.2 = some vl) (h1063 : ((vk.length : Int) != (vl.length : Int)) = false) (h1064 : pimpl_Opened k u8.1 u8.2 = some u1n) (h1065 : pspec_Opened k u8.1 u8.2 = some u1o) (h1066 : plaws_sameDb k u1n u1o = some u1p) (h1067 : (!u1p) = true) : DrawOk Tryz.prog Tryz.f3.ntmps (regOps 12 Tryz.f3) [{}, {}, {}, { re := some (.bool false) }, {}, {}, {}, {}, { r := some (.v (.bool v0) []) }, {}, {}, { re := some (.bool false) }, {}, {}, {}, {}, { r := some (.v (.bool v5) []) }, {}, {}, { re := some (.bool false) }, {}, {}, {}, {}, { re := some (.bool false) }, {}, {}, { r := some (.v (.bool vt) []) }, {}, {}, { re := some (.bool false) }, {}, {}, { r := some (.v (.bool zp) []) }, {}, {}, { r := some (.v (.bool zq) []) }, {}, {}, { re := some (.bool false) }, {}, {}, { r := some (.v (.sl (List.map GClause.c vk)) [(0, .app 35)]) }, { v := some (aI (vk.length : Int)) }, {}, {}, { r := some (.v (.sl (List.map GClause.c vl)) [(0, .app 35)]) }, { v := some (aI (vl.length : Int)) }, {}, {}, { re := some (.bool false) }, {}, {}, { r := some (.v (.agg (GDb.q u1n)) [(0, .app 35), (1, .app 9)]) }, {}, {}, { r := some (.v (.agg (GDb.q u1o)) [(0, .app 35), (1, .app 9)]) }, { r := some (.v (.bool u1p) []) }, {}, {}, { re := some (.bool true) }] [] (plaws_FnClauses_Z12 uj u5 uc uq ur u8 um uz vf) [3, 5, 6, 7, 149] [3, 6] [] ⟨[tP 3 3, tS 5 uj.2, tP 6 6, tB 7 u5.2, tB 149 true], [(3, .cells (GDb.q um) [(0, .app 35), (1, .app 9)]), (6, .cells (GClause.q u5.1) [(3, .app 31), (7, .app 31)])], []⟩ :=
  ⟨_, by kernel_rfl, (.cons (congrArg AV.bool h1050) (.cons (cspec_SameTerm h1051) (.cons (congrArg AV.bool h1052) (.cons (cspec_SameTerm h1053) (.cons (congrArg AV.bool h1054) (.cons (congrArg AV.bool h1055) (.cons (claws_sameDb h1056) (.cons (congrArg AV.bool h1057) (.cons (cimpl_Known h1058) (.cons (cspec_Known h1059) (.cons (congrArg AV.bool h1060) (.cons (cimpl_ClausesOf h1061) (.cons (len_obl GClause.c vk) (.cons (cspec_ClausesOf h1062) (.cons (len_obl GClause.c vl) (.cons (congrArg AV.bool h1063) (.cons (cimpl_Opened h1064) (.cons (cspec_Opened h1065) (.cons (claws_sameDb h1066) (.cons (congrArg AV.bool h1067) .nil)))))))))))))))))))), fun X => by kernel_rfl⟩
theorem plaws_FnClauses_D20 (k : Nat) {u5 : GClause × Bool} {uc : GClause × Bool} {v0 : Bool} {v5 : Bool} {uq : GDb × Bool} {ur : GDb × Bool} {vt : Bool} {u8 : GDb × ByteArray} {zp : Bool} {zq : Bool} {vk : (List GClause)} {vl : (List GClause)} {u1n : GDb} {u1o : GDb} {u1p : Bool} {u32 : Bool} {u33 : Bool} {uj : GTerm × ByteArray} {um : GDb} {uz : GDb × GClause} {vf : GTerm} (h1050 : (!(u5.2 == uc.2)) = false) (h1051 : pspec_SameTerm k u5.1.gHead uc.1.gHead = some v0) (h1052 : (!v0) = false) (h1053 : pspec_SameTerm k u5.1.gBody uc.1.gBody = some v5) (h1054 : (!v5) = false) (h1055 : (!(uq.2 == ur.2)) = false) (h1056 : plaws_sameDb k uq.1 ur.1 = some vt) (h1057 : (!vt) = false) (h1058 : pimpl_Known k u8.1 u8.2 = some zp) (h1059 : pspec_Known k u8.1 u8.2 = some zq) (h1060 : (!(zp == zq)) = false) (h1061 : pimpl_ClausesOf k u8.1 u8.2 = some vk) (h1062 : pspec_ClausesOf k u8.1 u8.2 = some vl) (h1063 : ((vk.length : Int) != (vl.length : Int)) = false) (h1064 : pimpl_Opened k u8.1 u8.2 = some u1n) (h1065 : pspec_Opened k u8.1 u8.2 = some u1o) (h1066 : plaws_sameDb k u1n u1o = some u1p) (h1067 : (!u1p) = false) (h1068 : pimpl_Control k u8.2 = some u32) (h1069 : pspec_Control k u8.2 = some u33) (h1070 : (!(u32 == u33)) = true) : DrawOk Tryz.prog Tryz.f3.ntmps (regOps 12 Tryz.f3) [{}, {}, {}, { re := some (.bool false) }, {}, {}, {}, {}, { r := some (.v (.bool v0) []) }, {}, {}, { re := some (.bool false) }, {}, {}, {}, {}, { r := some (.v (.bool v5) []) }, {}, {}, { re := some (.bool false) }, {}, {}, {}, {}, { re := some (.bool false) }, {}, {}, { r := some (.v (.bool vt) []) }, {}, {}, { re := some (.bool false) }, {}, {}, { r := some (.v (.bool zp) []) }, {}, {}, { r := some (.v (.bool zq) []) }, {}, {}, { re := some (.bool false) }, {}, {}, { r := some (.v (.sl (List.map GClause.c vk)) [(0, .app 35)]) }, { v := some (aI (vk.length : Int)) }, {}, {}, { r := some (.v (.sl (List.map GClause.c vl)) [(0, .app 35)]) }, { v := some (aI (vl.length : Int)) }, {}, {}, { re := some (.bool false) }, {}, {}, { r := some (.v (.agg (GDb.q u1n)) [(0, .app 35), (1, .app 9)]) }, {}, {}, { r := some (.v (.agg (GDb.q u1o)) [(0, .app 35), (1, .app 9)]) }, { r := some (.v (.bool u1p) []) }, {}, {}, { re := some (.bool false) }, {}, { r := some (.v (.bool u32) []) }, {}, { r := some (.v (.bool u33) []) }, {}, {}, { re := some (.bool true) }] [] (plaws_FnClauses_Z12 uj u5 uc uq ur u8 um uz vf) [3, 5, 6, 7, 149] [3, 6] [] ⟨[tP 3 3, tS 5 uj.2, tP 6 6, tB 7 u5.2, tB 149 true], [(3, .cells (GDb.q um) [(0, .app 35), (1, .app 9)]), (6, .cells (GClause.q u5.1) [(3, .app 31), (7, .app 31)])], []⟩ :=
  ⟨_, by kernel_rfl, (.cons (congrArg AV.bool h1050) (.cons (cspec_SameTerm h1051) (.cons (congrArg AV.bool h1052) (.cons (cspec_SameTerm h1053) (.cons (congrArg AV.bool h1054) (.cons (congrArg AV.bool h1055) (.cons (claws_sameDb h1056) (.cons (congrArg AV.bool h1057) (.cons (cimpl_Known h1058) (.cons (cspec_Known h1059) (.cons (congrArg AV.bool h1060) (.cons (cimpl_ClausesOf h1061) (.cons (len_obl GClause.c vk) (.cons (cspec_ClausesOf h1062) (.cons (len_obl GClause.c vl) (.cons (congrArg AV.bool h1063) (.cons (cimpl_Opened h1064) (.cons (cspec_Opened h1065) (.cons (claws_sameDb h1066) (.cons (congrArg AV.bool h1067) (.cons (cimpl_Control h1068) (.cons (cspec_Control h1069) (.cons (congrArg AV.bool h1070) .nil))))))))))))))))))))))), fun X => by kernel_rfl⟩
theorem plaws_FnClauses_D21 (k : Nat) {u5 : GClause × Bool} {uc : GClause × Bool} {v0 : Bool} {v5 : Bool} {uq : GDb × Bool} {ur : GDb × Bool} {vt : Bool} {u8 : GDb × ByteArray} {zp : Bool} {zq : Bool} {vk : (List GClause)} {vl : (List GClause)} {u1n : GDb} {u1o : GDb} {u1p : Bool} {u32 : Bool} {u33 : Bool} {vf : GTerm} {u4o : ByteArray} {u4p : ByteArray} {uj : GTerm × ByteArray} {um : GDb} {uz : GDb × GClause} (h1050 : (!(u5.2 == uc.2)) = false) (h1051 : pspec_SameTerm k u5.1.gHead uc.1.gHead = some v0) (h1052 : (!v0) = false) (h1053 : pspec_SameTerm k u5.1.gBody uc.1.gBody = some v5) (h1054 : (!v5) = false) (h1055 : (!(uq.2 == ur.2)) = false) (h1056 : plaws_sameDb k uq.1 ur.1 = some vt) (h1057 : (!vt) = false) (h1058 : pimpl_Known k u8.1 u8.2 = some zp) (h1059 : pspec_Known k u8.1 u8.2 = some zq) (h1060 : (!(zp == zq)) = false) (h1061 : pimpl_ClausesOf k u8.1 u8.2 = some vk) (h1062 : pspec_ClausesOf k u8.1 u8.2 = some vl) (h1063 : ((vk.length : Int) != (vl.length : Int)) = false) (h1064 : pimpl_Opened k u8.1 u8.2 = some u1n) (h1065 : pspec_Opened k u8.1 u8.2 = some u1o) (h1066 : plaws_sameDb k u1n u1o = some u1p) (h1067 : (!u1p) = false) (h1068 : pimpl_Control k u8.2 = some u32) (h1069 : pspec_Control k u8.2 = some u33) (h1070 : (!(u32 == u33)) = false) (h1071 : pimpl_PredOf k vf = some u4o) (h1072 : pspec_PredOf k vf = some u4p) (h1073 : (!(sEq u4o u4p)) = true) : DrawOk Tryz.prog Tryz.f3.ntmps (regOps 12 Tryz.f3) [{}, {}, {}, { re := some (.bool false) }, {}, {}, {}, {}, { r := some (.v (.bool v0) []) }, {}, {}, { re := some (.bool false) }, {}, {}, {}, {}, { r := some (.v (.bool v5) []) }, {}, {}, { re := some (.bool false) }, {}, {}, {}, {}, { re := some (.bool false) }, {}, {}, { r := some (.v (.bool vt) []) }, {}, {}, { re := some (.bool false) }, {}, {}, { r := some (.v (.bool zp) []) }, {}, {}, { r := some (.v (.bool zq) []) }, {}, {}, { re := some (.bool false) }, {}, {}, { r := some (.v (.sl (List.map GClause.c vk)) [(0, .app 35)]) }, { v := some (aI (vk.length : Int)) }, {}, {}, { r := some (.v (.sl (List.map GClause.c vl)) [(0, .app 35)]) }, { v := some (aI (vl.length : Int)) }, {}, {}, { re := some (.bool false) }, {}, {}, { r := some (.v (.agg (GDb.q u1n)) [(0, .app 35), (1, .app 9)]) }, {}, {}, { r := some (.v (.agg (GDb.q u1o)) [(0, .app 35), (1, .app 9)]) }, { r := some (.v (.bool u1p) []) }, {}, {}, { re := some (.bool false) }, {}, { r := some (.v (.bool u32) []) }, {}, { r := some (.v (.bool u33) []) }, {}, {}, { re := some (.bool false) }, {}, { r := some (.v (.str u4o) []) }, {}, { r := some (.v (.str u4p) []) }, {}, {}, { re := some (.bool true) }] [] (plaws_FnClauses_Z12 uj u5 uc uq ur u8 um uz vf) [3, 5, 6, 7, 149] [3, 6] [] ⟨[tP 3 3, tS 5 uj.2, tP 6 6, tB 7 u5.2, tB 149 true], [(3, .cells (GDb.q um) [(0, .app 35), (1, .app 9)]), (6, .cells (GClause.q u5.1) [(3, .app 31), (7, .app 31)])], []⟩ :=
  ⟨_, by kernel_rfl, (.cons (congrArg AV.bool h1050) (.cons (cspec_SameTerm h1051) (.cons (congrArg AV.bool h1052) (.cons (cspec_SameTerm h1053) (.cons (congrArg AV.bool h1054) (.cons (congrArg AV.bool h1055) (.cons (claws_sameDb h1056) (.cons (congrArg AV.bool h1057) (.cons (cimpl_Known h1058) (.cons (cspec_Known h1059) (.cons (congrArg AV.bool h1060) (.cons (cimpl_ClausesOf h1061) (.cons (len_obl GClause.c vk) (.cons (cspec_ClausesOf h1062) (.cons (len_obl GClause.c vl) (.cons (congrArg AV.bool h1063) (.cons (cimpl_Opened h1064) (.cons (cspec_Opened h1065) (.cons (claws_sameDb h1066) (.cons (congrArg AV.bool h1067) (.cons (cimpl_Control h1068) (.cons (cspec_Control h1069) (.cons (congrArg AV.bool h1070) (.cons (cimpl_PredOf h1071) (.cons (cspec_PredOf h1072) (.cons (congrArg AV.bool h1073) .nil)))))))))))))))))))))))))), fun X => by kernel_rfl⟩
theorem plaws_FnClauses_D22 (k : Nat) {u5 : GClause × Bool} {uc : GClause × Bool} {v0 : Bool} {v5 : Bool} {uq : GDb × Bool} {ur : GDb × Bool} {vt : Bool} {u8 : GDb × ByteArray} {zp : Bool} {zq : Bool} {vk : (List GClause)} {vl : (List GClause)} {u1n : GDb} {u1o : GDb} {u1p : Bool} {u32 : Bool} {u33 : Bool} {vf : GTerm} {u4o : ByteArray} {u4p : ByteArray} {uz : GDb × GClause} {u8d : Bool} {u8e : Bool} {uj : GTerm × ByteArray} {um : GDb} (h1050 : (!(u5.2 == uc.2)) = false) (h1051 : pspec_SameTerm k u5.1.gHead uc.1.gHead = some v0) (h1052 : (!v0) = false) (h1053 : pspec_SameTerm k u5.1.gBody uc.1.gBody = some v5) (h1054 : (!v5) = false) (h1055 : (!(uq.2 == ur.2)) = false) (h1056 : plaws_sameDb k uq.1 ur.1 = some vt) (h1057 : (!vt) = false) (h1058 : pimpl_Known k u8.1 u8.2 = some zp) (h1059 : pspec_Known k u8.1 u8.2 = some zq) (h1060 : (!(zp == zq)) = false) (h1061 : pimpl_ClausesOf k u8.1 u8.2 = some vk) (h1062 : pspec_ClausesOf k u8.1 u8.2 = some vl) (h1063 : ((vk.length : Int) != (vl.length : Int)) = false) (h1064 : pimpl_Opened k u8.1 u8.2 = some u1n) (h1065 : pspec_Opened k u8.1 u8.2 = some u1o) (h1066 : plaws_sameDb k u1n u1o = some u1p) (h1067 : (!u1p) = false) (h1068 : pimpl_Control k u8.2 = some u32) (h1069 : pspec_Control k u8.2 = some u33) (h1070 : (!(u32 == u33)) = false) (h1071 : pimpl_PredOf k vf = some u4o) (h1072 : pspec_PredOf k vf = some u4p) (h1073 : (!(sEq u4o u4p)) = false) (h1074 : pimpl_DbOk k uz.1 = some u8d) (h1075 : pspec_DbOk k uz.1 = some u8e) : DrawOk Tryz.prog Tryz.f3.ntmps (regOps 12 Tryz.f3) [{}, {}, {}, { re := some (.bool false) }, {}, {}, {}, {}, { r := some (.v (.bool v0) []) }, {}, {}, { re := some (.bool false) }, {}, {}, {}, {}, { r := some (.v (.bool v5) []) }, {}, {}, { re := some (.bool false) }, {}, {}, {}, {}, { re := some (.bool false) }, {}, {}, { r := some (.v (.bool vt) []) }, {}, {}, { re := some (.bool false) }, {}, {}, { r := some (.v (.bool zp) []) }, {}, {}, { r := some (.v (.bool zq) []) }, {}, {}, { re := some (.bool false) }, {}, {}, { r := some (.v (.sl (List.map GClause.c vk)) [(0, .app 35)]) }, { v := some (aI (vk.length : Int)) }, {}, {}, { r := some (.v (.sl (List.map GClause.c vl)) [(0, .app 35)]) }, { v := some (aI (vl.length : Int)) }, {}, {}, { re := some (.bool false) }, {}, {}, { r := some (.v (.agg (GDb.q u1n)) [(0, .app 35), (1, .app 9)]) }, {}, {}, { r := some (.v (.agg (GDb.q u1o)) [(0, .app 35), (1, .app 9)]) }, { r := some (.v (.bool u1p) []) }, {}, {}, { re := some (.bool false) }, {}, { r := some (.v (.bool u32) []) }, {}, { r := some (.v (.bool u33) []) }, {}, {}, { re := some (.bool false) }, {}, { r := some (.v (.str u4o) []) }, {}, { r := some (.v (.str u4p) []) }, {}, {}, { re := some (.bool false) }, {}, { r := some (.v (.bool u8d) []) }, {}, { r := some (.v (.bool u8e) []) }] [] (plaws_FnClauses_Z12 uj u5 uc uq ur u8 um uz vf) [3, 5, 6, 7, 149] [3, 6] [] ⟨[tP 3 3, tS 5 uj.2, tP 6 6, tB 7 u5.2, tB 149 (!(u8d == u8e))], [(3, .cells (GDb.q um) [(0, .app 35), (1, .app 9)]), (6, .cells (GClause.q u5.1) [(3, .app 31), (7, .app 31)])], []⟩ :=
  ⟨_, by kernel_rfl, (.cons (congrArg AV.bool h1050) (.cons (cspec_SameTerm h1051) (.cons (congrArg AV.bool h1052) (.cons (cspec_SameTerm h1053) (.cons (congrArg AV.bool h1054) (.cons (congrArg AV.bool h1055) (.cons (claws_sameDb h1056) (.cons (congrArg AV.bool h1057) (.cons (cimpl_Known h1058) (.cons (cspec_Known h1059) (.cons (congrArg AV.bool h1060) (.cons (cimpl_ClausesOf h1061) (.cons (len_obl GClause.c vk) (.cons (cspec_ClausesOf h1062) (.cons (len_obl GClause.c vl) (.cons (congrArg AV.bool h1063) (.cons (cimpl_Opened h1064) (.cons (cspec_Opened h1065) (.cons (claws_sameDb h1066) (.cons (congrArg AV.bool h1067) (.cons (cimpl_Control h1068) (.cons (cspec_Control h1069) (.cons (congrArg AV.bool h1070) (.cons (cimpl_PredOf h1071) (.cons (cspec_PredOf h1072) (.cons (congrArg AV.bool h1073) (.cons (cimpl_DbOk h1074) (.cons (cspec_DbOk h1075) .nil)))))))))))))))))))))))))))), fun X => by kernel_rfl⟩
def plaws_FnClauses (k : Nat) (u11 : List Int) : Option Bool :=
  (plaws_big k u11).bind fun ue2 =>
  if ue2 = true then
    some true
  else
    (pspec_DrawDb k u11).bind fun um =>
    (pspec_DrawClauseOf k u11).bind fun uj =>
    (pimpl_ClauseOf k uj.1 uj.2).bind fun u5 =>
    (pspec_ClauseOf k uj.1 uj.2).bind fun uc =>
    (pspec_DrawAdded k u11).bind fun uz =>
    (pimpl_Added k uz.1 uz.2).bind fun uq =>
    (pspec_Added k uz.1 uz.2).bind fun ur =>
    (pspec_DrawKnown k u11).bind fun u8 =>
    (pspec_DrawPredOf k u11).bind fun vf =>
    if (!(u5.2 == uc.2)) = true then
      some false
    else
      (pspec_SameTerm k u5.1.gHead uc.1.gHead).bind fun v0 =>
      if (!v0) = true then
        some false
      else
        (pspec_SameTerm k u5.1.gBody uc.1.gBody).bind fun v5 =>
        if (!v5) = true then
          some false
        else
          if (!(uq.2 == ur.2)) = true then
            some false
          else
            (plaws_sameDb k uq.1 ur.1).bind fun vt =>
            if (!vt) = true then
              some false
            else
              (pimpl_Known k u8.1 u8.2).bind fun zp =>
              (pspec_Known k u8.1 u8.2).bind fun zq =>
              if (!(zp == zq)) = true then
                some false
              else
                (pimpl_ClausesOf k u8.1 u8.2).bind fun vk =>
                (pspec_ClausesOf k u8.1 u8.2).bind fun vl =>
                if ((vk.length : Int) != (vl.length : Int)) = true then
                  some false
                else
                  (pimpl_Opened k u8.1 u8.2).bind fun u1n =>
                  (pspec_Opened k u8.1 u8.2).bind fun u1o =>
                  (plaws_sameDb k u1n u1o).bind fun u1p =>
                  if (!u1p) = true then
                    some false
                  else
                    (pimpl_Control k u8.2).bind fun u32 =>
                    (pspec_Control k u8.2).bind fun u33 =>
                    if (!(u32 == u33)) = true then
                      some false
                    else
                      (pimpl_PredOf k vf).bind fun u4o =>
                      (pspec_PredOf k vf).bind fun u4p =>
                      if (!(sEq u4o u4p)) = true then
                        some false
                      else
                        (pimpl_DbOk k uz.1).bind fun u8d =>
                        (pspec_DbOk k uz.1).bind fun u8e =>
                        if (!(u8d == u8e)) = true then
                          some false
                        else
                          if (!u5.2) = true then
                            (pimpl_DbOk k (GDb.mk [u5.1] [])).bind fun ue3 =>
                            some (!ue3)
                          else
                            (pimpl_Added k um u5.1).bind fun u3j =>
                            (pimpl_ClauseTerm k u5.1).bind fun ued =>
                            (pimpl_ClauseOf k ued uj.2).bind fun u4q =>
                            (pimpl_PredOf k u5.1.gHead).bind fun uee =>
                            (pimpl_ClausesOf k u3j.1 uee).bind fun u1c =>
                            if u3j.2 = true then
                              (pspec_ClauseTerm k u5.1).bind fun u4c =>
                              (pspec_TermOk k u4c).bind fun u4d =>
                              if (!u4d) = true then
                                (at' u1c (wr.i64 ((u1c.length : Int) - 1))).bind fun u4e =>
                                (pspec_SameTerm k u4e.gHead u5.1.gHead).bind fun u3x =>
                                if u3x = true then
                                  (pimpl_PredOf k u5.1.gHead).bind fun ue4 =>
                                  (pimpl_Known k u3j.1 ue4).bind fun u4r =>
                                  if u4r = true then
                                    (pimpl_DbOk k um).bind fun ue5 =>
                                    some ue5
                                  else
                                    some false
                                else
                                  some false
                              else
                                if u4q.2 = true then
                                  (pspec_SameTerm k u4q.1.gHead u5.1.gHead).bind fun u6l =>
                                  if u6l = true then
                                    (pspec_SameTerm k u4q.1.gBody u5.1.gBody).bind fun u3x =>
                                    if u3x = true then
                                      (at' u1c (wr.i64 ((u1c.length : Int) - 1))).bind fun u4f =>
                                      (pspec_SameTerm k u4f.gHead u5.1.gHead).bind fun u4r =>
                                      if u4r = true then
                                        (pimpl_PredOf k u5.1.gHead).bind fun ue6 =>
                                        (pimpl_Known k u3j.1 ue6).bind fun ue7 =>
                                        if ue7 = true then
                                          (pimpl_DbOk k um).bind fun ue8 =>
                                          some ue8
                                        else
                                          some false
                                      else
                                        some false
                                    else
                                      some false
                                  else
                                    some false
                                else
                                  some false
                            else
                              some false
set_option maxHeartbeats 4000000 in
theorem claws_FnClauses {k : Nat} {u11 : List Int} {r : Bool} (h : plaws_FnClauses k u11 = some r) : FnO Tryz.prog 3 [.v (.sl (List.map cI.u8 u11)) []] (.v (.bool r) []) [] := by
  refine FnO.o2 Tryz.func3 (rfl : Tryz.f3.body = some _) ?_
  intro w0 X0 Fin pv0 pb gt
  unfold plaws_FnClauses at h
  apply Wc.seq
  refine Wc.r0 ⟨[tV 0 (.sl (List.map cI.u8 u11))], [], []⟩ ?_
  apply Wc.seq
  apply Wc.seq
  obtain ⟨ue2, h1039, h⟩ := obind h
  refine Wc.r2 [{}, { r := some (.v (.bool ue2) []) }] ⟨[tV 0 (.sl (List.map cI.u8 u11)), tB 25 ue2], [], []⟩ (.cons (claws_big h1039) .nil) ?_
  rcases oif h with ⟨h1040, h⟩ | ⟨h1040, h⟩
  · refine Wc.cT h1040 ?_
    apply Wc.seq
    refine Wc.r0 ⟨[tB 2 true], [], []⟩ ?_
    obtain rfl := Option.some.inj h; exact Wc.ret dn
  · refine Wc.cF h1040 ?_
    refine Wc.fx [] ⟨[tV 0 (.sl (List.map cI.u8 u11))], [], []⟩ ?_
    refine Wc.skip ?_
    apply Wc.seq
    obtain ⟨um, h1041, h⟩ := obind h
    refine Wc.r2 [{}, { r := some (.v (.agg (GDb.q um)) [(0, .app 35), (1, .app 9)]) }, {}, { tk := [27] }] ⟨[tV 0 (.sl (List.map cI.u8 u11)), tP 3 3], [(3, .cells (GDb.q um) [(0, .app 35), (1, .app 9)])], []⟩ (.cons (cspec_DrawDb h1041) .nil) ?_
    apply Wc.seq
    obtain ⟨uj, h1042, h⟩ := obind h
    refine Wc.r2 [{}, { r := some (.v (.tup [.agg (GTerm.q uj.1), .str uj.2]) []) }] ⟨[tV 0 (.sl (List.map cI.u8 u11)), tP 3 3, tP 4 4, tS 5 uj.2], [(3, .cells (GDb.q um) [(0, .app 35), (1, .app 9)]), bC 4 (GTerm.q uj.1)], []⟩ (.cons (cspec_DrawClauseOf h1042) .nil) ?_
    apply Wc.seq
    obtain ⟨u5, h1043, h⟩ := obind h
    refine Wc.r2 [{}, {}, { r := some (.v (.tup [.agg (GClause.q u5.1), .bool u5.2]) [(3, .app 31), (7, .app 31)]) }, { tk := [36] }, { tk := [33] }, {}, {}, { tk := [37] }] ⟨[tV 0 (.sl (List.map cI.u8 u11)), tP 3 3, tP 4 4, tS 5 uj.2, tP 6 6, tB 7 u5.2], [(3, .cells (GDb.q um) [(0, .app 35), (1, .app 9)]), bC 4 (GTerm.q uj.1), (6, .cells (GClause.q u5.1) [(3, .app 31), (7, .app 31)])], []⟩ (.cons (cimpl_ClauseOf h1043) .nil) ?_
    apply Wc.seq
    obtain ⟨uc, h1044, h⟩ := obind h
    refine Wc.r2 [{}, {}, { r := some (.v (.tup [.agg (GClause.q uc.1), .bool uc.2]) [(3, .app 31), (7, .app 31)]) }, { tk := [42] }, { tk := [39] }, {}, {}, { tk := [43] }] ⟨[tV 0 (.sl (List.map cI.u8 u11)), tP 3 3, tS 5 uj.2, tP 6 6, tB 7 u5.2, tP 8 8, tB 9 uc.2], [(3, .cells (GDb.q um) [(0, .app 35), (1, .app 9)]), (6, .cells (GClause.q u5.1) [(3, .app 31), (7, .app 31)]), (8, .cells (GClause.q uc.1) [(3, .app 31), (7, .app 31)])], []⟩ (.cons (cspec_ClauseOf h1044) .nil) ?_
    apply Wc.seq
    obtain ⟨uz, h1045, h⟩ := obind h
    refine Wc.r2 [{}, { r := some (.v (.tup [.agg (GDb.q uz.1), .agg (GClause.q uz.2)]) [(0, .app 35)]) }, { tk := [47] }, { tk := [45] }, {}, {}, {}, { tk := [48] }] ⟨[tV 0 (.sl (List.map cI.u8 u11)), tP 3 3, tS 5 uj.2, tP 6 6, tB 7 u5.2, tP 8 8, tB 9 uc.2, tP 10 10, tP 11 11], [(3, .cells (GDb.q um) [(0, .app 35), (1, .app 9)]), (6, .cells (GClause.q u5.1) [(3, .app 31), (7, .app 31)]), (8, .cells (GClause.q uc.1) [(3, .app 31), (7, .app 31)]), (10, .cells (GDb.q uz.1) [(0, .app 35)]), bC 11 (GClause.q uz.2)], []⟩ (.cons (cspec_DrawAdded h1045) .nil) ?_
    apply Wc.seq
    obtain ⟨uq, h1046, h⟩ := obind h
    refine Wc.r2 [{}, {}, { r := some (.v (.tup [.agg (GDb.q uq.1), .bool uq.2]) [(0, .app 35), (1, .app 9)]) }, { tk := [53] }, { tk := [50] }, {}, {}, { tk := [54] }] ⟨[tV 0 (.sl (List.map cI.u8 u11)), tP 3 3, tS 5 uj.2, tP 6 6, tB 7 u5.2, tP 8 8, tB 9 uc.2, tP 10 10, tP 11 11, tP 12 12, tB 13 uq.2], [(3, .cells (GDb.q um) [(0, .app 35), (1, .app 9)]), (6, .cells (GClause.q u5.1) [(3, .app 31), (7, .app 31)]), (8, .cells (GClause.q uc.1) [(3, .app 31), (7, .app 31)]), (10, .cells (GDb.q uz.1) [(0, .app 35)]), bC 11 (GClause.q uz.2), (12, .cells (GDb.q uq.1) [(0, .app 35), (1, .app 9)])], []⟩ (.cons (cimpl_Added h1046) .nil) ?_
    apply Wc.seq
    obtain ⟨ur, h1047, h⟩ := obind h
    refine Wc.r2 [{}, {}, { r := some (.v (.tup [.agg (GDb.q ur.1), .bool ur.2]) [(0, .app 35), (1, .app 9)]) }, { tk := [59] }, { tk := [56] }, {}, {}, { tk := [60] }] ⟨[tV 0 (.sl (List.map cI.u8 u11)), tP 3 3, tS 5 uj.2, tP 6 6, tB 7 u5.2, tP 8 8, tB 9 uc.2, tP 10 10, tP 12 12, tB 13 uq.2, tP 14 14, tB 15 ur.2], [(3, .cells (GDb.q um) [(0, .app 35), (1, .app 9)]), (6, .cells (GClause.q u5.1) [(3, .app 31), (7, .app 31)]), (8, .cells (GClause.q uc.1) [(3, .app 31), (7, .app 31)]), (10, .cells (GDb.q uz.1) [(0, .app 35)]), (12, .cells (GDb.q uq.1) [(0, .app 35), (1, .app 9)]), (14, .cells (GDb.q ur.1) [(0, .app 35), (1, .app 9)])], []⟩ (.cons (cspec_Added h1047) .nil) ?_
    apply Wc.seq
    obtain ⟨u8, h1048, h⟩ := obind h
    refine Wc.r2 [{}, { r := some (.v (.tup [.agg (GDb.q u8.1), .str u8.2]) [(0, .app 35)]) }, { tk := [64] }, { tk := [62] }, {}, {}, { tk := [65] }] ⟨[tV 0 (.sl (List.map cI.u8 u11)), tP 3 3, tS 5 uj.2, tP 6 6, tB 7 u5.2, tP 8 8, tB 9 uc.2, tP 10 10, tP 12 12, tB 13 uq.2, tP 14 14, tB 15 ur.2, tP 16 16, tS 17 u8.2], [(3, .cells (GDb.q um) [(0, .app 35), (1, .app 9)]), (6, .cells (GClause.q u5.1) [(3, .app 31), (7, .app 31)]), (8, .cells (GClause.q uc.1) [(3, .app 31), (7, .app 31)]), (10, .cells (GDb.q uz.1) [(0, .app 35)]), (12, .cells (GDb.q uq.1) [(0, .app 35), (1, .app 9)]), (14, .cells (GDb.q ur.1) [(0, .app 35), (1, .app 9)]), (16, .cells (GDb.q u8.1) [(0, .app 35)])], []⟩ (.cons (cspec_DrawKnown h1048) .nil) ?_
    apply Wc.seq
    obtain ⟨vf, h1049, h⟩ := obind h
    refine Wc.r2 [{}, { r := some (.v (.agg (GTerm.q vf)) [(3, .app 31)]) }, {}, { tk := [68] }] ⟨[tP 3 3, tS 5 uj.2, tP 6 6, tB 7 u5.2, tP 8 8, tB 9 uc.2, tP 10 10, tP 12 12, tB 13 uq.2, tP 14 14, tB 15 ur.2, tP 16 16, tS 17 u8.2, tP 18 18], [(3, .cells (GDb.q um) [(0, .app 35), (1, .app 9)]), (6, .cells (GClause.q u5.1) [(3, .app 31), (7, .app 31)]), (8, .cells (GClause.q uc.1) [(3, .app 31), (7, .app 31)]), (10, .cells (GDb.q uz.1) [(0, .app 35)]), (12, .cells (GDb.q uq.1) [(0, .app 35), (1, .app 9)]), (14, .cells (GDb.q ur.1) [(0, .app 35), (1, .app 9)]), (16, .cells (GDb.q u8.1) [(0, .app 35)]), (18, .cells (GTerm.q vf) [(3, .app 31)])], []⟩ (.cons (cspec_DrawPredOf h1049) .nil) ?_
    apply Wc.seq
    apply Wc.seq
    rcases oif h with ⟨h1050, h⟩ | ⟨h1050, h⟩
    · refine Wc.drawAt hmix (id := 12) (plaws_FnClauses_D12 k h1050) (by kernel_rfl) ?_
      refine Wc.cT rfl ?_
      apply Wc.seq
      refine Wc.r0 ⟨[tB 2 false], [], []⟩ ?_
      obtain rfl := Option.some.inj h; exact Wc.ret dn
    · obtain ⟨v0, h1051, h⟩ := obind h
      rcases oif h with ⟨h1052, h⟩ | ⟨h1052, h⟩
      · refine Wc.drawAt hmix (id := 12) (plaws_FnClauses_D13 k h1050 h1051 h1052) (by kernel_rfl) ?_
        refine Wc.cT rfl ?_
        apply Wc.seq
        refine Wc.r0 ⟨[tB 2 false], [], []⟩ ?_
        obtain rfl := Option.some.inj h; exact Wc.ret dn
      · obtain ⟨v5, h1053, h⟩ := obind h
        rcases oif h with ⟨h1054, h⟩ | ⟨h1054, h⟩
        · refine Wc.drawAt hmix (id := 12) (plaws_FnClauses_D14 k h1050 h1051 h1052 h1053 h1054) (by kernel_rfl) ?_
          refine Wc.cT rfl ?_
          apply Wc.seq
          refine Wc.r0 ⟨[tB 2 false], [], []⟩ ?_
          obtain rfl := Option.some.inj h; exact Wc.ret dn
        · rcases oif h with ⟨h1055, h⟩ | ⟨h1055, h⟩
          · refine Wc.drawAt hmix (id := 12) (plaws_FnClauses_D15 k h1050 h1051 h1052 h1053 h1054 h1055) (by kernel_rfl) ?_
            refine Wc.cT rfl ?_
            apply Wc.seq
            refine Wc.r0 ⟨[tB 2 false], [], []⟩ ?_
            obtain rfl := Option.some.inj h; exact Wc.ret dn
          · obtain ⟨vt, h1056, h⟩ := obind h
            rcases oif h with ⟨h1057, h⟩ | ⟨h1057, h⟩
            · refine Wc.drawAt hmix (id := 12) (plaws_FnClauses_D16 k h1050 h1051 h1052 h1053 h1054 h1055 h1056 h1057) (by kernel_rfl) ?_
              refine Wc.cT rfl ?_
              apply Wc.seq
              refine Wc.r0 ⟨[tB 2 false], [], []⟩ ?_
              obtain rfl := Option.some.inj h; exact Wc.ret dn
            · obtain ⟨zp, h1058, h⟩ := obind h
              obtain ⟨zq, h1059, h⟩ := obind h
              rcases oif h with ⟨h1060, h⟩ | ⟨h1060, h⟩
              · refine Wc.drawAt hmix (id := 12) (plaws_FnClauses_D17 k h1050 h1051 h1052 h1053 h1054 h1055 h1056 h1057 h1058 h1059 h1060) (by kernel_rfl) ?_
                refine Wc.cT rfl ?_
                apply Wc.seq
                refine Wc.r0 ⟨[tB 2 false], [], []⟩ ?_
                obtain rfl := Option.some.inj h; exact Wc.ret dn
              · obtain ⟨vk, h1061, h⟩ := obind h
                obtain ⟨vl, h1062, h⟩ := obind h
                rcases oif h with ⟨h1063, h⟩ | ⟨h1063, h⟩
                · refine Wc.drawAt hmix (id := 12) (plaws_FnClauses_D18 k h1050 h1051 h1052 h1053 h1054 h1055 h1056 h1057 h1058 h1059 h1060 h1061 h1062 h1063) (by kernel_rfl) ?_
                  refine Wc.cT rfl ?_
                  apply Wc.seq
                  refine Wc.r0 ⟨[tB 2 false], [], []⟩ ?_
                  obtain rfl := Option.some.inj h; exact Wc.ret dn
                · obtain ⟨u1n, h1064, h⟩ := obind h
                  obtain ⟨u1o, h1065, h⟩ := obind h
                  obtain ⟨u1p, h1066, h⟩ := obind h
                  rcases oif h with ⟨h1067, h⟩ | ⟨h1067, h⟩
                  · refine Wc.drawAt hmix (id := 12) (plaws_FnClauses_D19 k h1050 h1051 h1052 h1053 h1054 h1055 h1056 h1057 h1058 h1059 h1060 h1061 h1062 h1063 h1064 h1065 h1066 h1067) (by kernel_rfl) ?_
                    refine Wc.cT rfl ?_
                    apply Wc.seq
                    refine Wc.r0 ⟨[tB 2 false], [], []⟩ ?_
                    obtain rfl := Option.some.inj h; exact Wc.ret dn
                  · obtain ⟨u32, h1068, h⟩ := obind h
                    obtain ⟨u33, h1069, h⟩ := obind h
                    rcases oif h with ⟨h1070, h⟩ | ⟨h1070, h⟩
                    · refine Wc.drawAt hmix (id := 12) (plaws_FnClauses_D20 k h1050 h1051 h1052 h1053 h1054 h1055 h1056 h1057 h1058 h1059 h1060 h1061 h1062 h1063 h1064 h1065 h1066 h1067 h1068 h1069 h1070) (by kernel_rfl) ?_
                      refine Wc.cT rfl ?_
                      apply Wc.seq
                      refine Wc.r0 ⟨[tB 2 false], [], []⟩ ?_
                      obtain rfl := Option.some.inj h; exact Wc.ret dn
                    · obtain ⟨u4o, h1071, h⟩ := obind h
                      obtain ⟨u4p, h1072, h⟩ := obind h
                      rcases oif h with ⟨h1073, h⟩ | ⟨h1073, h⟩
                      · refine Wc.drawAt hmix (id := 12) (plaws_FnClauses_D21 k h1050 h1051 h1052 h1053 h1054 h1055 h1056 h1057 h1058 h1059 h1060 h1061 h1062 h1063 h1064 h1065 h1066 h1067 h1068 h1069 h1070 h1071 h1072 h1073) (by kernel_rfl) ?_
                        refine Wc.cT rfl ?_
                        apply Wc.seq
                        refine Wc.r0 ⟨[tB 2 false], [], []⟩ ?_
                        obtain rfl := Option.some.inj h; exact Wc.ret dn
                      · obtain ⟨u8d, h1074, h⟩ := obind h
                        obtain ⟨u8e, h1075, h⟩ := obind h
                        refine Wc.drawAt hmix (id := 12) (plaws_FnClauses_D22 k h1050 h1051 h1052 h1053 h1054 h1055 h1056 h1057 h1058 h1059 h1060 h1061 h1062 h1063 h1064 h1065 h1066 h1067 h1068 h1069 h1070 h1071 h1072 h1073 h1074 h1075) (by kernel_rfl) ?_
                        rcases oif h with ⟨h1076, h⟩ | ⟨h1076, h⟩
                        · refine Wc.cT h1076 ?_
                          apply Wc.seq
                          refine Wc.r0 ⟨[tB 2 false], [], []⟩ ?_
                          obtain rfl := Option.some.inj h; exact Wc.ret dn
                        · refine Wc.cF h1076 ?_
                          refine Wc.fx [] ⟨[tP 3 3, tS 5 uj.2, tP 6 6, tB 7 u5.2], [(3, .cells (GDb.q um) [(0, .app 35), (1, .app 9)]), (6, .cells (GClause.q u5.1) [(3, .app 31), (7, .app 31)])], []⟩ ?_
                          refine Wc.skip ?_
                          apply Wc.seq
                          apply Wc.seq
                          refine Wc.r0 ⟨[tP 3 3, tS 5 uj.2, tP 6 6, tB 151 (!u5.2)], [(3, .cells (GDb.q um) [(0, .app 35), (1, .app 9)]), (6, .cells (GClause.q u5.1) [(3, .app 31), (7, .app 31)])], []⟩ ?_
                          rcases oif h with ⟨h1077, h⟩ | ⟨h1077, h⟩
                          · refine Wc.cT h1077 ?_
                            apply Wc.seq
                            obtain ⟨ue3, h1078, h⟩ := obind h
                            refine Wc.r2 [{}, { c := some (List.map GClause.c [u5.1]) }, { tk := [153] }, { r := some (.v (.bool ue3) []) }] ⟨[tB 2 (!ue3)], [], []⟩ (.cons (cl_cons (c := GClause.c) (x := u5.1) (GClause.c_eq u5.1) (cl_nil GClause.c)) (.cons (cimpl_DbOk h1078) .nil)) ?_
                            obtain rfl := Option.some.inj h; exact Wc.ret dn
                          · refine Wc.cF h1077 ?_
                            refine Wc.fx [] ⟨[tP 3 3, tS 5 uj.2, tP 6 6], [(3, .cells (GDb.q um) [(0, .app 35), (1, .app 9)]), (6, .cells (GClause.q u5.1) [(3, .app 31), (7, .app 31)])], []⟩ ?_
                            refine Wc.skip ?_
                            apply Wc.seq
                            obtain ⟨u3j, h1079, h⟩ := obind h
                            refine Wc.r2 [{}, {}, { r := some (.v (.tup [.agg (GDb.q u3j.1), .bool u3j.2]) [(0, .app 35), (1, .app 9)]) }, { tk := [160] }, { tk := [157] }, {}, {}, { tk := [161] }] ⟨[tP 3 3, tS 5 uj.2, tP 6 6, tP 19 19, tB 20 u3j.2], [(3, .cells (GDb.q um) [(0, .app 35), (1, .app 9)]), (6, .cells (GClause.q u5.1) [(3, .app 31), (7, .app 31)]), (19, .cells (GDb.q u3j.1) [(0, .app 35), (1, .app 9)])], []⟩ (.cons (cimpl_Added h1079) .nil) ?_
                            apply Wc.seq
                            obtain ⟨ued, h1080, h⟩ := obind h
                            obtain ⟨u4q, h1081, h⟩ := obind h
                            refine Wc.r2 [{}, { r := some (.v (.agg (GTerm.q ued)) []) }, {}, { r := some (.v (.tup [.agg (GClause.q u4q.1), .bool u4q.2]) [(3, .app 31), (7, .app 31)]) }, { tk := [167] }, { tk := [163] }, {}, {}, { tk := [168] }] ⟨[tP 3 3, tP 6 6, tP 19 19, tB 20 u3j.2, tP 21 21, tB 22 u4q.2], [(3, .cells (GDb.q um) [(0, .app 35), (1, .app 9)]), (6, .cells (GClause.q u5.1) [(3, .app 31), (7, .app 31)]), (19, .cells (GDb.q u3j.1) [(0, .app 35), (1, .app 9)]), (21, .cells (GClause.q u4q.1) [(3, .app 31), (7, .app 31)])], []⟩ (.cons (cimpl_ClauseTerm h1080) (.cons (cimpl_ClauseOf h1081) .nil)) ?_
                            apply Wc.seq
                            obtain ⟨uee, h1082, h⟩ := obind h
                            obtain ⟨u1c, h1083, h⟩ := obind h
                            refine Wc.draw hmix [{}, {}, {}, { r := some (.v (.str uee) []) }, { r := some (.v (.sl (List.map GClause.c u1c)) [(0, .app 35)]) }, { tk := [174] }] [] [3, 6, 19, 20, 21, 22, 23] [3, 6, 19, 21] [] ⟨[tP 3 3, tP 6 6, tP 19 19, tB 20 u3j.2, tP 21 21, tB 22 u4q.2, (23, (.v (.sl (List.map GClause.c u1c)), [(0, .app 35)]))], [(3, .cells (GDb.q um) [(0, .app 35), (1, .app 9)]), (6, .cells (GClause.q u5.1) [(3, .app 31), (7, .app 31)]), (19, .cells (GDb.q u3j.1) [(0, .app 35), (1, .app 9)]), (21, .cells (GClause.q u4q.1) [(3, .app 31), (7, .app 31)])], []⟩ _ (by kernel_rfl) (fun X => by kernel_rfl) (.cons (cimpl_PredOf h1082) (.cons (cimpl_ClausesOf h1083) .nil)) ?_
                            apply Wc.seq
                            rcases oif h with ⟨h1084, h⟩ | ⟨h1084, h⟩
                            · obtain ⟨u4c, h1085, h⟩ := obind h
                              obtain ⟨u4d, h1086, h⟩ := obind h
                              rcases oif h with ⟨h1087, h⟩ | ⟨h1087, h⟩
                              · obtain ⟨u4e, h1088, h⟩ := obind h
                                obtain ⟨u3x, h1089, h⟩ := obind h
                                rcases oif h with ⟨h1090, h⟩ | ⟨h1090, h⟩
                                · obtain ⟨ue4, h1091, h⟩ := obind h
                                  obtain ⟨u4r, h1092, h⟩ := obind h
                                  rcases oif h with ⟨h1093, h⟩ | ⟨h1093, h⟩
                                  · obtain ⟨ue5, h1094, h⟩ := obind h
                                    refine Wc.draw hmix [{}, { re := some (.bool true) }, {}, { r := some (.v (.agg (GTerm.q u4c)) [(3, .app 31)]) }, { r := some (.v (.bool u4d) []) }, {}, { re := some (.bool true) }, {}, {}, {}, {}, {}, {}, {}, {}, {}, {}, {}, {}, {}, {}, {}, {}, {}, {}, {}, {}, { v := some (aI (u1c.length : Int)) }, {}, { v := some (.vptr (GClause.q u4e)) }, {}, {}, {}, {}, { r := some (.v (.bool u3x) []) }, {}, { re := some (.bool true) }, {}, {}, {}, { r := some (.v (.str ue4) []) }, { r := some (.v (.bool u4r) []) }, {}, { re := some (.bool true) }, {}, { r := some (.v (.bool ue5) []) }] [] [2] [] [] ⟨[tB 2 ue5], [], []⟩ _ (by kernel_rfl) (fun X => by kernel_rfl) (.cons (congrArg AV.bool h1084) (.cons (cspec_ClauseTerm h1085) (.cons (cspec_TermOk h1086) (.cons (congrArg AV.bool h1087) (.cons (len_obl GClause.c u1c) (.cons (at_obl (c := GClause.c) (GClause.c_eq u4e) GClause.c_len h1088) (.cons (len_ok 4 (GClause.q u4e)) (.cons (cspec_SameTerm h1089) (.cons (congrArg AV.bool h1090) (.cons (cimpl_PredOf h1091) (.cons (cimpl_Known h1092) (.cons (congrArg AV.bool h1093) (.cons (cimpl_DbOk h1094) .nil))))))))))))) ?_
                                    obtain rfl := Option.some.inj h; exact Wc.ret dn
                                  · refine Wc.draw hmix [{}, { re := some (.bool true) }, {}, { r := some (.v (.agg (GTerm.q u4c)) [(3, .app 31)]) }, { r := some (.v (.bool u4d) []) }, {}, { re := some (.bool true) }, {}, {}, {}, {}, {}, {}, {}, {}, {}, {}, {}, {}, {}, {}, {}, {}, {}, {}, {}, {}, { v := some (aI (u1c.length : Int)) }, {}, { v := some (.vptr (GClause.q u4e)) }, {}, {}, {}, {}, { r := some (.v (.bool u3x) []) }, {}, { re := some (.bool true) }, {}, {}, {}, { r := some (.v (.str ue4) []) }, { r := some (.v (.bool u4r) []) }, {}, { re := some (.bool false) }] [] [2] [] [] ⟨[tB 2 false], [], []⟩ _ (by kernel_rfl) (fun X => by kernel_rfl) (.cons (congrArg AV.bool h1084) (.cons (cspec_ClauseTerm h1085) (.cons (cspec_TermOk h1086) (.cons (congrArg AV.bool h1087) (.cons (len_obl GClause.c u1c) (.cons (at_obl (c := GClause.c) (GClause.c_eq u4e) GClause.c_len h1088) (.cons (len_ok 4 (GClause.q u4e)) (.cons (cspec_SameTerm h1089) (.cons (congrArg AV.bool h1090) (.cons (cimpl_PredOf h1091) (.cons (cimpl_Known h1092) (.cons (congrArg AV.bool h1093) .nil)))))))))))) ?_
                                    obtain rfl := Option.some.inj h; exact Wc.ret dn
                                · refine Wc.draw hmix [{}, { re := some (.bool true) }, {}, { r := some (.v (.agg (GTerm.q u4c)) [(3, .app 31)]) }, { r := some (.v (.bool u4d) []) }, {}, { re := some (.bool true) }, {}, {}, {}, {}, {}, {}, {}, {}, {}, {}, {}, {}, {}, {}, {}, {}, {}, {}, {}, {}, { v := some (aI (u1c.length : Int)) }, {}, { v := some (.vptr (GClause.q u4e)) }, {}, {}, {}, {}, { r := some (.v (.bool u3x) []) }, {}, { re := some (.bool false) }] [] [2] [] [] ⟨[tB 2 false], [], []⟩ _ (by kernel_rfl) (fun X => by kernel_rfl) (.cons (congrArg AV.bool h1084) (.cons (cspec_ClauseTerm h1085) (.cons (cspec_TermOk h1086) (.cons (congrArg AV.bool h1087) (.cons (len_obl GClause.c u1c) (.cons (at_obl (c := GClause.c) (GClause.c_eq u4e) GClause.c_len h1088) (.cons (len_ok 4 (GClause.q u4e)) (.cons (cspec_SameTerm h1089) (.cons (congrArg AV.bool h1090) .nil))))))))) ?_
                                  obtain rfl := Option.some.inj h; exact Wc.ret dn
                              · rcases oif h with ⟨h1088, h⟩ | ⟨h1088, h⟩
                                · obtain ⟨u6l, h1089, h⟩ := obind h
                                  rcases oif h with ⟨h1090, h⟩ | ⟨h1090, h⟩
                                  · obtain ⟨u3x, h1091, h⟩ := obind h
                                    rcases oif h with ⟨h1092, h⟩ | ⟨h1092, h⟩
                                    · obtain ⟨u4f, h1093, h⟩ := obind h
                                      obtain ⟨u4r, h1094, h⟩ := obind h
                                      rcases oif h with ⟨h1095, h⟩ | ⟨h1095, h⟩
                                      · obtain ⟨ue6, h1096, h⟩ := obind h
                                        obtain ⟨ue7, h1097, h⟩ := obind h
                                        rcases oif h with ⟨h1098, h⟩ | ⟨h1098, h⟩
                                        · obtain ⟨ue8, h1099, h⟩ := obind h
                                          refine Wc.draw hmix [{}, { re := some (.bool true) }, {}, { r := some (.v (.agg (GTerm.q u4c)) [(3, .app 31)]) }, { r := some (.v (.bool u4d) []) }, {}, { re := some (.bool false) }, {}, { re := some (.bool true) }, {}, {}, {}, {}, { r := some (.v (.bool u6l) []) }, {}, { re := some (.bool true) }, {}, {}, {}, {}, { r := some (.v (.bool u3x) []) }, {}, {}, {}, { re := some (.bool true) }, {}, {}, { v := some (aI (u1c.length : Int)) }, {}, { v := some (.vptr (GClause.q u4f)) }, {}, {}, {}, {}, { r := some (.v (.bool u4r) []) }, {}, { re := some (.bool true) }, {}, {}, {}, { r := some (.v (.str ue6) []) }, { r := some (.v (.bool ue7) []) }, {}, { re := some (.bool true) }, {}, { r := some (.v (.bool ue8) []) }] [] [2] [] [] ⟨[tB 2 ue8], [], []⟩ _ (by kernel_rfl) (fun X => by kernel_rfl) (.cons (congrArg AV.bool h1084) (.cons (cspec_ClauseTerm h1085) (.cons (cspec_TermOk h1086) (.cons (congrArg AV.bool h1087) (.cons (congrArg AV.bool h1088) (.cons (cspec_SameTerm h1089) (.cons (congrArg AV.bool h1090) (.cons (cspec_SameTerm h1091) (.cons (congrArg AV.bool h1092) (.cons (len_obl GClause.c u1c) (.cons (at_obl (c := GClause.c) (GClause.c_eq u4f) GClause.c_len h1093) (.cons (len_ok 4 (GClause.q u4f)) (.cons (cspec_SameTerm h1094) (.cons (congrArg AV.bool h1095) (.cons (cimpl_PredOf h1096) (.cons (cimpl_Known h1097) (.cons (congrArg AV.bool h1098) (.cons (cimpl_DbOk h1099) .nil)))))))))))))))))) ?_
                                          obtain rfl := Option.some.inj h; exact Wc.ret dn
                                        · refine Wc.draw hmix [{}, { re := some (.bool true) }, {}, { r := some (.v (.agg (GTerm.q u4c)) [(3, .app 31)]) }, { r := some (.v (.bool u4d) []) }, {}, { re := some (.bool false) }, {}, { re := some (.bool true) }, {}, {}, {}, {}, { r := some (.v (.bool u6l) []) }, {}, { re := some (.bool true) }, {}, {}, {}, {}, { r := some (.v (.bool u3x) []) }, {}, {}, {}, { re := some (.bool true) }, {}, {}, { v := some (aI (u1c.length : Int)) }, {}, { v := some (.vptr (GClause.q u4f)) }, {}, {}, {}, {}, { r := some (.v (.bool u4r) []) }, {}, { re := some (.bool true) }, {}, {}, {}, { r := some (.v (.str ue6) []) }, { r := some (.v (.bool ue7) []) }, {}, { re := some (.bool false) }] [] [2] [] [] ⟨[tB 2 false], [], []⟩ _ (by kernel_rfl) (fun X => by kernel_rfl) (.cons (congrArg AV.bool h1084) (.cons (cspec_ClauseTerm h1085) (.cons (cspec_TermOk h1086) (.cons (congrArg AV.bool h1087) (.cons (congrArg AV.bool h1088) (.cons (cspec_SameTerm h1089) (.cons (congrArg AV.bool h1090) (.cons (cspec_SameTerm h1091) (.cons (congrArg AV.bool h1092) (.cons (len_obl GClause.c u1c) (.cons (at_obl (c := GClause.c) (GClause.c_eq u4f) GClause.c_len h1093) (.cons (len_ok 4 (GClause.q u4f)) (.cons (cspec_SameTerm h1094) (.cons (congrArg AV.bool h1095) (.cons (cimpl_PredOf h1096) (.cons (cimpl_Known h1097) (.cons (congrArg AV.bool h1098) .nil))))))))))))))))) ?_
                                          obtain rfl := Option.some.inj h; exact Wc.ret dn
                                      · refine Wc.draw hmix [{}, { re := some (.bool true) }, {}, { r := some (.v (.agg (GTerm.q u4c)) [(3, .app 31)]) }, { r := some (.v (.bool u4d) []) }, {}, { re := some (.bool false) }, {}, { re := some (.bool true) }, {}, {}, {}, {}, { r := some (.v (.bool u6l) []) }, {}, { re := some (.bool true) }, {}, {}, {}, {}, { r := some (.v (.bool u3x) []) }, {}, {}, {}, { re := some (.bool true) }, {}, {}, { v := some (aI (u1c.length : Int)) }, {}, { v := some (.vptr (GClause.q u4f)) }, {}, {}, {}, {}, { r := some (.v (.bool u4r) []) }, {}, { re := some (.bool false) }] [] [2] [] [] ⟨[tB 2 false], [], []⟩ _ (by kernel_rfl) (fun X => by kernel_rfl) (.cons (congrArg AV.bool h1084) (.cons (cspec_ClauseTerm h1085) (.cons (cspec_TermOk h1086) (.cons (congrArg AV.bool h1087) (.cons (congrArg AV.bool h1088) (.cons (cspec_SameTerm h1089) (.cons (congrArg AV.bool h1090) (.cons (cspec_SameTerm h1091) (.cons (congrArg AV.bool h1092) (.cons (len_obl GClause.c u1c) (.cons (at_obl (c := GClause.c) (GClause.c_eq u4f) GClause.c_len h1093) (.cons (len_ok 4 (GClause.q u4f)) (.cons (cspec_SameTerm h1094) (.cons (congrArg AV.bool h1095) .nil)))))))))))))) ?_
                                        obtain rfl := Option.some.inj h; exact Wc.ret dn
                                    · refine Wc.draw hmix [{}, { re := some (.bool true) }, {}, { r := some (.v (.agg (GTerm.q u4c)) [(3, .app 31)]) }, { r := some (.v (.bool u4d) []) }, {}, { re := some (.bool false) }, {}, { re := some (.bool true) }, {}, {}, {}, {}, { r := some (.v (.bool u6l) []) }, {}, { re := some (.bool true) }, {}, {}, {}, {}, { r := some (.v (.bool u3x) []) }, {}, {}, {}, { re := some (.bool false) }] [] [2] [] [] ⟨[tB 2 false], [], []⟩ _ (by kernel_rfl) (fun X => by kernel_rfl) (.cons (congrArg AV.bool h1084) (.cons (cspec_ClauseTerm h1085) (.cons (cspec_TermOk h1086) (.cons (congrArg AV.bool h1087) (.cons (congrArg AV.bool h1088) (.cons (cspec_SameTerm h1089) (.cons (congrArg AV.bool h1090) (.cons (cspec_SameTerm h1091) (.cons (congrArg AV.bool h1092) .nil))))))))) ?_
                                      obtain rfl := Option.some.inj h; exact Wc.ret dn
                                  · refine Wc.draw hmix [{}, { re := some (.bool true) }, {}, { r := some (.v (.agg (GTerm.q u4c)) [(3, .app 31)]) }, { r := some (.v (.bool u4d) []) }, {}, { re := some (.bool false) }, {}, { re := some (.bool true) }, {}, {}, {}, {}, { r := some (.v (.bool u6l) []) }, {}, { re := some (.bool false) }] [] [2] [] [] ⟨[tB 2 false], [], []⟩ _ (by kernel_rfl) (fun X => by kernel_rfl) (.cons (congrArg AV.bool h1084) (.cons (cspec_ClauseTerm h1085) (.cons (cspec_TermOk h1086) (.cons (congrArg AV.bool h1087) (.cons (congrArg AV.bool h1088) (.cons (cspec_SameTerm h1089) (.cons (congrArg AV.bool h1090) .nil))))))) ?_
                                    obtain rfl := Option.some.inj h; exact Wc.ret dn
                                · refine Wc.draw hmix [{}, { re := some (.bool true) }, {}, { r := some (.v (.agg (GTerm.q u4c)) [(3, .app 31)]) }, { r := some (.v (.bool u4d) []) }, {}, { re := some (.bool false) }, {}, { re := some (.bool false) }] [] [2] [] [] ⟨[tB 2 false], [], []⟩ _ (by kernel_rfl) (fun X => by kernel_rfl) (.cons (congrArg AV.bool h1084) (.cons (cspec_ClauseTerm h1085) (.cons (cspec_TermOk h1086) (.cons (congrArg AV.bool h1087) (.cons (congrArg AV.bool h1088) .nil))))) ?_
                                  obtain rfl := Option.some.inj h; exact Wc.ret dn
                            · refine Wc.draw hmix [{}, { re := some (.bool false) }] [] [2] [] [] ⟨[tB 2 false], [], []⟩ _ (by kernel_rfl) (fun X => by kernel_rfl) (.cons (congrArg AV.bool h1084) .nil) ?_
                              obtain rfl := Option.some.inj h; exact Wc.ret dn
end Go.Proofs.YthemaodhckmnkaaGreatDoor

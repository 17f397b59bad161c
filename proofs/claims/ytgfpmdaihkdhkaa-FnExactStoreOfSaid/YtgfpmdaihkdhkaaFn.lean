/- What the functions do, part 4. -/
import Derived.Test.YtgfpmdaihkdhkaaFnc
set_option linter.unusedVariables false
set_option linter.unusedSimpArgs false
namespace Go.Proofs.Ytgfpmdaihkdhkaa
open Go.RowKit Go.Bv
def pimpl_StoreOf_d_L1 (k : Nat) (vi : GDb) : Nat → Int → GStore → Option (Out GStore GStore)
  | 0, _, _ => none
  | m + 1, u31, vj =>
    if (decide (u31 < (vi.gClauses.length : Int))) = true then
      (at' vi.gClauses u31).bind fun u67 =>
      (pimpl_CodeOf_d k u67).bind fun vp =>
      (pimpl_copyClause_d k u67).bind fun u32 =>
      if vj.gList.length + [GKept.mk u32 (GCode.mk vp.1.gHead vp.1.gBody vp.1.gVars) 0 0].length ≤ 1073741824 then
        pimpl_StoreOf_d_L1 k vi m (wr.i64 (u31 + 1)) (GStore.mk (vj.gList ++ [GKept.mk u32 (GCode.mk vp.1.gHead vp.1.gBody vp.1.gVars) 0 0]) vj.gOpen vj.gNow)
      else none
    else
      some (.done vj)
def pimpl_StoreOf_d (k : Nat) (vi : GDb) : Option GStore :=
  if ([] : List ByteArray).length + vi.gOpen.length ≤ 1073741824 then
    (pimpl_StoreOf_d_L1 k vi k 0 (GStore.mk [] vi.gOpen 1)).bind fun out1 => match out1 with
    | .ret r => some r
    | .done u4q =>
      some u4q
  else none
set_option maxHeartbeats 4000000 in
theorem cimpl_StoreOf_d {k : Nat} {vi : GDb} {r : GStore} (h : pimpl_StoreOf_d k vi = some r) : FnO Try.prog 46 [.v (.agg (GDb.q vi)) []] (.v (.agg [.slx, .slx, .int .i64 r.gNow]) [(0, .ex 128 true (List.map GKept.c r.gList)), (1, .ex 9 true (List.map cS r.gOpen))]) [] := by
  refine FnO.of Try.func46 (rfl : Try.f46.body = some _) (Nat.le_of_ble_eq_true (by kernel_rfl)) (Nat.le_of_ble_eq_true (by kernel_rfl)) ?_
  intro w0 X0 Fin pv0 pb
  unfold pimpl_StoreOf_d at h
  apply Wc.seq
  refine Wc.region [] [] [1, 2] [1, 2] [] ⟨[(1, (.ptr 1 0, [])), (2, (.ptr 2 0, []))], [(1, .cells (GDb.q vi) []), (2, .cells [.sl (List.map GKept.c []), .sl (List.map cS []), .int .i64 0] [(0, .app 128), (1, .app 9)])], []⟩ _ (by kernel_rfl) .nil ?_
  apply Wc.seq
  obtain ⟨h605, h⟩ := oguard h
  refine Wc.region [{}, {}, { c := some (List.map cS vi.gOpen), md := 2 }, { tk := [10] }, {}, { tk := [11] }] [] [1, 2, 3] [1, 2, 3] [] ⟨[(1, (.ptr 1 0, [])), (2, (.ptr 2 0, [])), (3, (.ptr 3 0, []))], [(1, .cells (GDb.q vi) []), (2, .cells [.sl (List.map GKept.c []), .sl (List.map cS []), .int .i64 0] [(0, .app 128), (1, .app 9)]), (3, .cells [.sl (List.map GKept.c []), .slx, .int .i64 1] [(0, .app 128), (1, .ex 9 true (List.map cS vi.gOpen))])], []⟩ _ (by kernel_rfl) (.cons (app_re0 cS vi.gOpen) (.cons (app_scal (c := cS) (ys := vi.gOpen) cS_scal) (.cons (app_obl2 (c := cS) (xs := []) (ys := vi.gOpen) cS_len h605) .nil))) ?_
  apply Wc.seq
  apply Wc.seq
  refine Wc.region [{}, {}, { v := some (.int .i64 (vi.gClauses.length : Int)) }] [] [2, 3, 13, 14, 15] [2, 3] [] ⟨[(2, (.ptr 2 0, [])), (3, (.ptr 3 0, [])), (13, (.v (.sl (List.map GClause.c vi.gClauses)), [])), (14, (.v (.int .i64 (vi.gClauses.length : Int)), [])), (15, (.v (.int .i64 0), []))], [(2, .cells [.sl (List.map GKept.c []), .sl (List.map cS []), .int .i64 0] [(0, .app 128), (1, .app 9)]), (3, .cells [.sl (List.map GKept.c []), .slx, .int .i64 1] [(0, .app 128), (1, .ex 9 true (List.map cS vi.gOpen))])], []⟩ _ (by kernel_rfl) (.cons (len_obl GClause.c vi.gClauses) .nil) ?_
  obtain ⟨out1, h606, h⟩ := obind h
  refine Wc.lastJ (fun st => ∃ (u4q : GStore), out1 = .done u4q ∧ st = ⟨[(2, (.ptr 2 0, [])), (3, (.ptr 3 0, []))], [(2, .cells [.slx, .slx, .int .i64 0] [(0, .ex 128 true (List.map GKept.c [])), (1, .ex 9 true (List.map cS []))]), (3, .cells [.slx, .slx, .int .i64 u4q.gNow] [(0, .ex 128 true (List.map GKept.c u4q.gList)), (1, .ex 9 true (List.map cS u4q.gOpen))])], []⟩) ?_ ?_
  · refine Wc.block ?_
    refine Wc.fix (st' := ⟨[(2, (.ptr 2 0, [])), (3, (.ptr 3 0, [])), (13, (.v (.sl (List.map GClause.c vi.gClauses)), [])), (14, (.v (.int .i64 (vi.gClauses.length : Int)), [])), (15, (.v (.int .i64 0), []))], [(2, .cells [.slx, .slx, .int .i64 0] [(0, .ex 128 true (List.map GKept.c [])), (1, .ex 9 true (List.map cS []))]), (3, .cells [.slx, .slx, .int .i64 1] [(0, .ex 128 true (List.map GKept.c [])), (1, .ex 9 true (List.map cS vi.gOpen))])], []⟩) [.ow (.b 2 0) true, .ow (.b 2 1) true, .ow (.b 3 0) true] [2, 3, 13, 14, 15] [2, 3] [] (by kernel_rfl) ?_
    refine Wc.loop (fun m st => ∃ (u31 : Int) (vj : GStore), st = ⟨[(2, (.ptr 2 0, [])), (3, (.ptr 3 0, [])), (13, (.v (.sl (List.map GClause.c vi.gClauses)), [])), (14, (.v (.int .i64 (vi.gClauses.length : Int)), [])), (15, (.v (.int .i64 u31), []))], [(2, .cells [.slx, .slx, .int .i64 0] [(0, .ex 128 true (List.map GKept.c [])), (1, .ex 9 true (List.map cS []))]), (3, .cells [.slx, .slx, .int .i64 vj.gNow] [(0, .ex 128 true (List.map GKept.c vj.gList)), (1, .ex 9 true (List.map cS vj.gOpen))])], []⟩ ∧ pimpl_StoreOf_d_L1 k vi m u31 vj = some out1) ?_ k ⟨_, _, rfl, h606⟩
    rintro m st ⟨u31, vj, rfl, h606⟩
    cases m with
    | zero => exact (onone h606).elim
    | succ m =>
      apply Wc.seq
      refine Wc.region [] [] [2, 3, 13, 14, 15, 16] [2, 3] [] ⟨[(2, (.ptr 2 0, [])), (3, (.ptr 3 0, [])), (13, (.v (.sl (List.map GClause.c vi.gClauses)), [])), (14, (.v (.int .i64 (vi.gClauses.length : Int)), [])), (15, (.v (.int .i64 u31), [])), (16, (.v (.bool (decide (u31 < (vi.gClauses.length : Int)))), []))], [(2, .cells [.slx, .slx, .int .i64 0] [(0, .ex 128 true (List.map GKept.c [])), (1, .ex 9 true (List.map cS []))]), (3, .cells [.slx, .slx, .int .i64 vj.gNow] [(0, .ex 128 true (List.map GKept.c vj.gList)), (1, .ex 9 true (List.map cS vj.gOpen))])], []⟩ _ (by kernel_rfl) .nil ?_
      apply Wc.seq
      rcases oif h606 with ⟨h607, h606⟩ | ⟨h607, h606⟩
      · refine Wc.condT h607 (by kernel_rfl) ?_
        refine Wc.fix (st' := ⟨[(2, (.ptr 2 0, [])), (3, (.ptr 3 0, [])), (13, (.v (.sl (List.map GClause.c vi.gClauses)), [])), (14, (.v (.int .i64 (vi.gClauses.length : Int)), [])), (15, (.v (.int .i64 u31), []))], [(2, .cells [.slx, .slx, .int .i64 0] [(0, .ex 128 true (List.map GKept.c [])), (1, .ex 9 true (List.map cS []))]), (3, .cells [.slx, .slx, .int .i64 vj.gNow] [(0, .ex 128 true (List.map GKept.c vj.gList)), (1, .ex 9 true (List.map cS vj.gOpen))])], []⟩) [] [2, 3, 13, 14, 15] [2, 3] [] (by kernel_rfl) ?_
        refine Wc.skip ?_
        apply Wc.seq
        refine Wc.block ?_
        apply Wc.seq
        obtain ⟨u67, h608, h606⟩ := obind h606
        refine Wc.region [{ v := some (.vptr (GClause.q u67)) }] [] [2, 3, 5, 13, 14, 15] [2, 3, 5] [] ⟨[(2, (.ptr 2 0, [])), (3, (.ptr 3 0, [])), (5, (.ptr 5 0, [])), (13, (.v (.sl (List.map GClause.c vi.gClauses)), [])), (14, (.v (.int .i64 (vi.gClauses.length : Int)), [])), (15, (.v (.int .i64 u31), []))], [(2, .cells [.slx, .slx, .int .i64 0] [(0, .ex 128 true (List.map GKept.c [])), (1, .ex 9 true (List.map cS []))]), (3, .cells [.slx, .slx, .int .i64 vj.gNow] [(0, .ex 128 true (List.map GKept.c vj.gList)), (1, .ex 9 true (List.map cS vj.gOpen))]), (5, .cells (GClause.q u67) [])], []⟩ _ (by kernel_rfl) (.cons (at_obl (c := GClause.c) (GClause.c_eq u67) GClause.c_len h608) (.cons (len_ok 9 (GClause.q u67)) .nil)) ?_
        apply Wc.seq
        obtain ⟨vp, h609, h606⟩ := obind h606
        refine Wc.region [{}, { r := some (.v (.tup [.agg [.slx, .slx, .int .i64 vp.1.gVars], .bool vp.2]) [(0, .ex 158 true (List.map GIns.c vp.1.gHead)), (1, .ex 158 true (List.map GIns.c vp.1.gBody))]) }, { tk := [21] }, { tk := [19] }, {}, {}, { tk := [22] }] [] [2, 3, 5, 6, 13, 14, 15] [2, 3, 5, 6] [] ⟨[(2, (.ptr 2 0, [])), (3, (.ptr 3 0, [])), (5, (.ptr 5 0, [])), (6, (.ptr 6 0, [])), (13, (.v (.sl (List.map GClause.c vi.gClauses)), [])), (14, (.v (.int .i64 (vi.gClauses.length : Int)), [])), (15, (.v (.int .i64 u31), []))], [(2, .cells [.slx, .slx, .int .i64 0] [(0, .ex 128 true (List.map GKept.c [])), (1, .ex 9 true (List.map cS []))]), (3, .cells [.slx, .slx, .int .i64 vj.gNow] [(0, .ex 128 true (List.map GKept.c vj.gList)), (1, .ex 9 true (List.map cS vj.gOpen))]), (5, .cells (GClause.q u67) []), (6, .cells [.slx, .slx, .int .i64 vp.1.gVars] [(0, .ex 158 true (List.map GIns.c vp.1.gHead)), (1, .ex 158 true (List.map GIns.c vp.1.gBody))])], []⟩ _ (by kernel_rfl) (.cons (cimpl_CodeOf_d h609) .nil) ?_
        obtain ⟨u32, h610, h606⟩ := obind h606
        obtain ⟨h611, h606⟩ := oguard h606
        refine Wc.draw hmix [{}, { md := 1 }, {}, { r := some (.v (.agg (GClause.qx u32)) [(3, .ex 42 true (List.map GTerm.c u32.gHead.gKids)), (7, .ex 42 true (List.map GTerm.c u32.gBody.gKids))]) }, { md := 1 }, { tk := [27, 28] }, { c := some (List.map GKept.c [GKept.mk u32 (GCode.mk vp.1.gHead vp.1.gBody vp.1.gVars) 0 0]), tk := [29], md := 2 }, { c := some (List.map GKept.c (vj.gList ++ [GKept.mk u32 (GCode.mk vp.1.gHead vp.1.gBody vp.1.gVars) 0 0])), tk := [25, 30], md := 2 }, {}, { tk := [31] }] [.so 3] [2, 3, 13, 14, 15] [2, 3] [] ⟨[(2, (.ptr 2 0, [])), (3, (.ptr 3 0, [])), (13, (.v (.sl (List.map GClause.c vi.gClauses)), [])), (14, (.v (.int .i64 (vi.gClauses.length : Int)), [])), (15, (.v (.int .i64 u31), []))], [(2, .cells [.slx, .slx, .int .i64 0] [(0, .ex 128 true (List.map GKept.c [])), (1, .ex 9 true (List.map cS []))]), (3, .cells [.slx, .slx, .int .i64 vj.gNow] [(0, .ex 128 true (List.map GKept.c (vj.gList ++ [GKept.mk u32 (GCode.mk vp.1.gHead vp.1.gBody vp.1.gVars) 0 0]))), (1, .ex 9 true (List.map cS vj.gOpen))])], []⟩ _ (by kernel_rfl) (fun X => by kernel_rfl) (.cons (cimpl_copyClause_d h610) (.cons (cl_cons (c := GKept.c) (x := GKept.mk u32 (GCode.mk vp.1.gHead vp.1.gBody vp.1.gVars) 0 0) (GKept.c_eq (GKept.mk u32 (GCode.mk vp.1.gHead vp.1.gBody vp.1.gVars) 0 0)) (cl_nil GKept.c)) (.cons (app_re2 GKept.c vj.gList [GKept.mk u32 (GCode.mk vp.1.gHead vp.1.gBody vp.1.gVars) 0 0]) (.cons (app_obl2 (c := GKept.c) (xs := vj.gList) (ys := [GKept.mk u32 (GCode.mk vp.1.gHead vp.1.gBody vp.1.gVars) 0 0]) GKept.c_len h611) .nil)))) ?_
        refine Wc.region [] [] [2, 3, 13, 14, 15] [2, 3] [] ⟨[(2, (.ptr 2 0, [])), (3, (.ptr 3 0, [])), (13, (.v (.sl (List.map GClause.c vi.gClauses)), [])), (14, (.v (.int .i64 (vi.gClauses.length : Int)), [])), (15, (.v (.int .i64 (wr.i64 (u31 + 1))), []))], [(2, .cells [.slx, .slx, .int .i64 0] [(0, .ex 128 true (List.map GKept.c [])), (1, .ex 9 true (List.map cS []))]), (3, .cells [.slx, .slx, .int .i64 vj.gNow] [(0, .ex 128 true (List.map GKept.c (vj.gList ++ [GKept.mk u32 (GCode.mk vp.1.gHead vp.1.gBody vp.1.gVars) 0 0]))), (1, .ex 9 true (List.map cS vj.gOpen))])], []⟩ _ (by kernel_rfl) .nil ?_
        exact ⟨_, Nat.lt_succ_self _, _, _, rfl, h606⟩
      · refine Wc.condF h607 (by kernel_rfl) ?_
        refine Wc.fix (st' := ⟨[(2, (.ptr 2 0, [])), (3, (.ptr 3 0, []))], [(2, .cells [.slx, .slx, .int .i64 0] [(0, .ex 128 true (List.map GKept.c [])), (1, .ex 9 true (List.map cS []))]), (3, .cells [.slx, .slx, .int .i64 vj.gNow] [(0, .ex 128 true (List.map GKept.c vj.gList)), (1, .ex 9 true (List.map cS vj.gOpen))])], []⟩) [] [2, 3] [2, 3] [] (by kernel_rfl) ?_
        refine Wc.exit ?_
        obtain rfl := Option.some.inj h606
        exact ⟨_, rfl, rfl⟩
  · rintro st ⟨u4q, rfl, rfl⟩
    apply Wc.seq
    refine Wc.region [{ md := 1 }, { tk := [34] }] [] [2] [2] [] ⟨[(2, (.ptr 2 0, []))], [(2, .cells [.slx, .slx, .int .i64 u4q.gNow] [(0, .ex 128 true (List.map GKept.c u4q.gList)), (1, .ex 9 true (List.map cS u4q.gOpen))])], []⟩ _ (by kernel_rfl) .nil ?_
    refine Wc.ret ?_
    obtain rfl := Option.some.inj h
    exact ⟨.inl rfl, by kernel_rfl, by kernel_rfl⟩

def plaws_FnExactStoreOf (k : Nat) (z4 : GDb) : Option Bool :=
  (plaws_szDb k z4 1048576).bind fun uac =>
  if (decide (uac < 0)) = true then
    some true
  else
    (plaws_toDb k z4).bind fun uc6 =>
    (pspec_StoreOf k uc6).bind fun u00 =>
    (plaws_toDb_d k z4).bind fun u0o =>
    (pimpl_StoreOf_d k u0o).bind fun v4 =>
    (plaws_eqStore k v4 u00).bind fun ubz =>
    if (!ubz) = true then
      some false
    else
      (plaws_toDb k z4).bind fun u42 =>
      (plaws_eqDb k u0o u42).bind fun uc0 =>
      if (!uc0) = true then
        some false
      else
        (plaws_markDb k u0o 1).bind fun u8o =>
        if (decide (u8o.2 < 0)) = true then
          some false
        else
          (plaws_eqStore k v4 u00).bind fun u5i =>
          if (!u5i) = true then
            some false
          else
            (plaws_markStore k v4 1).bind fun vc =>
            (plaws_heldStore k (GStore.mk vc.1.gList vc.1.gOpen v4.gNow) 1).bind fun u5k =>
            if (decide (u5k < 0)) = true then
              some false
            else
              if (u5k != vc.2) = true then
                some false
              else
                (plaws_toDb k z4).bind fun uc7 =>
                (pimpl_StoreOf k uc7).bind fun vj =>
                (plaws_eqStore k vj u00).bind fun uc1 =>
                if (!uc1) = true then
                  some false
                else
                  (plaws_heldStore k (GStore.mk vc.1.gList vc.1.gOpen v4.gNow) 1).bind fun u30 =>
                  if (decide (u30 < 0)) = true then
                    some false
                  else
                    if (u30 != vc.2) = true then
                      some false
                    else
                      some true
set_option maxHeartbeats 4000000 in
theorem claws_FnExactStoreOf {k : Nat} {z4 : GDb} {r : Bool} (h : plaws_FnExactStoreOf k z4 = some r) : FnO Try.prog 8 [.v (.agg (GDb.q z4)) []] (.v (.bool r) []) [] := by
  refine FnO.of Try.func8 (rfl : Try.f8.body = some _) (Nat.le_of_ble_eq_true (by kernel_rfl)) (Nat.le_of_ble_eq_true (by kernel_rfl)) ?_
  intro w0 X0 Fin pv0 pb
  unfold plaws_FnExactStoreOf at h
  apply Wc.seq
  refine Wc.region [] [] [1] [1] [] ⟨[(1, (.ptr 1 0, []))], [(1, .cells (GDb.q z4) [])], []⟩ _ (by kernel_rfl) .nil ?_
  apply Wc.seq
  refine Wc.region [] [] [1, 3] [1] [] ⟨[(1, (.ptr 1 0, [])), (3, (.v (.int .i64 1048576), []))], [(1, .cells (GDb.q z4) [])], []⟩ _ (by kernel_rfl) .nil ?_
  apply Wc.seq
  obtain ⟨uac, h593, h⟩ := obind h
  refine Wc.region [{}, {}, { r := some (.v (.int .i64 uac) []) }] [] [1, 3] [1] [] ⟨[(1, (.ptr 1 0, [])), (3, (.v (.int .i64 uac), []))], [(1, .cells (GDb.q z4) [])], []⟩ _ (by kernel_rfl) (.cons (claws_szDb h593) .nil) ?_
  apply Wc.seq
  apply Wc.seq
  refine Wc.region [] [] [1, 15] [1] [] ⟨[(1, (.ptr 1 0, [])), (15, (.v (.bool (decide (uac < 0))), []))], [(1, .cells (GDb.q z4) [])], []⟩ _ (by kernel_rfl) .nil ?_
  rcases oif h with ⟨h594, h⟩ | ⟨h594, h⟩
  · refine Wc.condT h594 (by kernel_rfl) ?_
    apply Wc.seq
    refine Wc.region [] [] [2] [] [] ⟨[(2, (.v (.bool true), []))], [], []⟩ _ (by kernel_rfl) .nil ?_
    refine Wc.ret ?_
    obtain rfl := Option.some.inj h
    exact ⟨.inl rfl, by kernel_rfl, by kernel_rfl⟩
  · refine Wc.condF h594 (by kernel_rfl) ?_
    refine Wc.fix (st' := ⟨[(1, (.ptr 1 0, []))], [(1, .cells (GDb.q z4) [])], []⟩) [] [1] [1] [] (by kernel_rfl) ?_
    refine Wc.skip ?_
    apply Wc.seq
    obtain ⟨uc6, h595, h⟩ := obind h
    obtain ⟨u00, h596, h⟩ := obind h
    refine Wc.region [{}, { r := some (.v (.agg (GDb.q uc6)) []) }, { r := some (.v (.agg (GStore.q u00)) [(0, .app 128), (1, .app 9)]) }, {}, { tk := [18] }] [] [1, 4] [1, 4] [] ⟨[(1, (.ptr 1 0, [])), (4, (.ptr 4 0, []))], [(1, .cells (GDb.q z4) []), (4, .cells (GStore.q u00) [(0, .app 128), (1, .app 9)])], []⟩ _ (by kernel_rfl) (.cons (claws_toDb h595) (.cons (cspec_StoreOf h596) .nil)) ?_
    apply Wc.seq
    obtain ⟨u0o, h597, h⟩ := obind h
    refine Wc.region [{}, { r := some (.v (.agg [.slx, .slx]) [(0, .ex 66 true (List.map GClause.c u0o.gClauses)), (1, .ex 9 true (List.map cS u0o.gOpen))]) }, {}, { tk := [20] }] [] [1, 4, 5] [1, 4, 5] [] ⟨[(1, (.ptr 1 0, [])), (4, (.ptr 4 0, [])), (5, (.ptr 5 0, []))], [(1, .cells (GDb.q z4) []), (4, .cells (GStore.q u00) [(0, .app 128), (1, .app 9)]), (5, .cells [.slx, .slx] [(0, .ex 66 true (List.map GClause.c u0o.gClauses)), (1, .ex 9 true (List.map cS u0o.gOpen))])], []⟩ _ (by kernel_rfl) (.cons (claws_toDb_d h597) .nil) ?_
    apply Wc.seq
    obtain ⟨v4, h598, h⟩ := obind h
    refine Wc.region [{}, { r := some (.v (.agg [.slx, .slx, .int .i64 v4.gNow]) [(0, .ex 128 true (List.map GKept.c v4.gList)), (1, .ex 9 true (List.map cS v4.gOpen))]) }, {}, { tk := [22] }] [] [1, 4, 5, 6] [1, 4, 5, 6] [] ⟨[(1, (.ptr 1 0, [])), (4, (.ptr 4 0, [])), (5, (.ptr 5 0, [])), (6, (.ptr 6 0, []))], [(1, .cells (GDb.q z4) []), (4, .cells (GStore.q u00) [(0, .app 128), (1, .app 9)]), (5, .cells [.slx, .slx] [(0, .ex 66 true (List.map GClause.c u0o.gClauses)), (1, .ex 9 true (List.map cS u0o.gOpen))]), (6, .cells [.slx, .slx, .int .i64 v4.gNow] [(0, .ex 128 true (List.map GKept.c v4.gList)), (1, .ex 9 true (List.map cS v4.gOpen))])], []⟩ _ (by kernel_rfl) (.cons (cimpl_StoreOf_d h598) .nil) ?_
    apply Wc.seq
    apply Wc.seq
    obtain ⟨ubz, h599, h⟩ := obind h
    refine Wc.region [{}, {}, { r := some (.v (.bool ubz) []) }] [] [1, 4, 5, 6, 26] [1, 4, 5, 6] [] ⟨[(1, (.ptr 1 0, [])), (4, (.ptr 4 0, [])), (5, (.ptr 5 0, [])), (6, (.ptr 6 0, [])), (26, (.v (.bool (!ubz)), []))], [(1, .cells (GDb.q z4) []), (4, .cells (GStore.q u00) [(0, .app 128), (1, .app 9)]), (5, .cells [.slx, .slx] [(0, .ex 66 true (List.map GClause.c u0o.gClauses)), (1, .ex 9 true (List.map cS u0o.gOpen))]), (6, .cells [.slx, .slx, .int .i64 v4.gNow] [(0, .ex 128 true (List.map GKept.c v4.gList)), (1, .ex 9 true (List.map cS v4.gOpen))])], []⟩ _ (by kernel_rfl) (.cons (claws_eqStore h599) .nil) ?_
    rcases oif h with ⟨h600, h⟩ | ⟨h600, h⟩
    · refine Wc.condT h600 (by kernel_rfl) ?_
      apply Wc.seq
      refine Wc.region [] [] [2] [] [] ⟨[(2, (.v (.bool false), []))], [], []⟩ _ (by kernel_rfl) .nil ?_
      refine Wc.ret ?_
      obtain rfl := Option.some.inj h
      exact ⟨.inl rfl, by kernel_rfl, by kernel_rfl⟩
    · refine Wc.condF h600 (by kernel_rfl) ?_
      refine Wc.fix (st' := ⟨[(1, (.ptr 1 0, [])), (4, (.ptr 4 0, [])), (5, (.ptr 5 0, [])), (6, (.ptr 6 0, []))], [(1, .cells (GDb.q z4) []), (4, .cells (GStore.q u00) [(0, .app 128), (1, .app 9)]), (5, .cells [.slx, .slx] [(0, .ex 66 true (List.map GClause.c u0o.gClauses)), (1, .ex 9 true (List.map cS u0o.gOpen))]), (6, .cells [.slx, .slx, .int .i64 v4.gNow] [(0, .ex 128 true (List.map GKept.c v4.gList)), (1, .ex 9 true (List.map cS v4.gOpen))])], []⟩) [] [1, 4, 5, 6] [1, 4, 5, 6] [] (by kernel_rfl) ?_
      refine Wc.skip ?_
      apply Wc.seq
      apply Wc.seq
      obtain ⟨u42, h601, h⟩ := obind h
      obtain ⟨uc0, h602, h⟩ := obind h
      refine Wc.draw hmix [{}, {}, { r := some (.v (.agg (GDb.q u42)) []) }, { r := some (.v (.bool uc0) []) }] [] [1, 4, 5, 6, 31] [1, 4, 5, 6] [] ⟨[(1, (.ptr 1 0, [])), (4, (.ptr 4 0, [])), (5, (.ptr 5 0, [])), (6, (.ptr 6 0, [])), (31, (.v (.bool (!uc0)), []))], [(1, .cells (GDb.q z4) []), (4, .cells (GStore.q u00) [(0, .app 128), (1, .app 9)]), (5, .cells [.slx, .slx] [(0, .ex 66 true (List.map GClause.c u0o.gClauses)), (1, .ex 9 true (List.map cS u0o.gOpen))]), (6, .cells [.slx, .slx, .int .i64 v4.gNow] [(0, .ex 128 true (List.map GKept.c v4.gList)), (1, .ex 9 true (List.map cS v4.gOpen))])], []⟩ _ (by kernel_rfl) (fun X => by kernel_rfl) (.cons (claws_toDb h601) (.cons (claws_eqDb h602) .nil)) ?_
      rcases oif h with ⟨h603, h⟩ | ⟨h603, h⟩
      · refine Wc.condT h603 (by kernel_rfl) ?_
        apply Wc.seq
        refine Wc.region [] [] [2] [] [] ⟨[(2, (.v (.bool false), []))], [], []⟩ _ (by kernel_rfl) .nil ?_
        refine Wc.ret ?_
        obtain rfl := Option.some.inj h
        exact ⟨.inl rfl, by kernel_rfl, by kernel_rfl⟩
      · refine Wc.condF h603 (by kernel_rfl) ?_
        refine Wc.fix (st' := ⟨[(1, (.ptr 1 0, [])), (4, (.ptr 4 0, [])), (5, (.ptr 5 0, [])), (6, (.ptr 6 0, []))], [(1, .cells (GDb.q z4) []), (4, .cells (GStore.q u00) [(0, .app 128), (1, .app 9)]), (5, .cells [.slx, .slx] [(0, .ex 66 true (List.map GClause.c u0o.gClauses)), (1, .ex 9 true (List.map cS u0o.gOpen))]), (6, .cells [.slx, .slx, .int .i64 v4.gNow] [(0, .ex 128 true (List.map GKept.c v4.gList)), (1, .ex 9 true (List.map cS v4.gOpen))])], []⟩) [] [1, 4, 5, 6] [1, 4, 5, 6] [] (by kernel_rfl) ?_
        refine Wc.skip ?_
        apply Wc.seq
        refine Wc.region [] [] [1, 4, 5, 6, 7] [1, 4, 5, 6] [] ⟨[(1, (.ptr 1 0, [])), (4, (.ptr 4 0, [])), (5, (.ptr 5 0, [])), (6, (.ptr 6 0, [])), (7, (.v (.int .i64 1), []))], [(1, .cells (GDb.q z4) []), (4, .cells (GStore.q u00) [(0, .app 128), (1, .app 9)]), (5, .cells [.slx, .slx] [(0, .ex 66 true (List.map GClause.c u0o.gClauses)), (1, .ex 9 true (List.map cS u0o.gOpen))]), (6, .cells [.slx, .slx, .int .i64 v4.gNow] [(0, .ex 128 true (List.map GKept.c v4.gList)), (1, .ex 9 true (List.map cS v4.gOpen))])], []⟩ _ (by kernel_rfl) .nil ?_
        apply Wc.seq
        obtain ⟨u8o, h604, h⟩ := obind h
        refine Wc.region [{}, {}, { io := [0], r := some (.v (.int .i64 u8o.2) []), outs := [(0, .v .undef [(0, .ex 1000000007 true (List.map GClause.c u8o.1.gClauses)), (1, .ex 1000000007 true (List.map cS u8o.1.gOpen))])] }] [] [1, 4, 6, 7] [1, 4, 6] [] ⟨[(1, (.ptr 1 0, [])), (4, (.ptr 4 0, [])), (6, (.ptr 6 0, [])), (7, (.v (.int .i64 u8o.2), []))], [(1, .cells (GDb.q z4) []), (4, .cells (GStore.q u00) [(0, .app 128), (1, .app 9)]), (6, .cells [.slx, .slx, .int .i64 v4.gNow] [(0, .ex 128 true (List.map GKept.c v4.gList)), (1, .ex 9 true (List.map cS v4.gOpen))])], []⟩ _ (by kernel_rfl) (.cons (FnO.any (args := [.io (.agg [.slx, .slx]) [(0, .ex 66 true (List.map GClause.c u0o.gClauses)), (1, .ex 9 true (List.map cS u0o.gOpen))], .v (.int .i64 1) []]) (claws_markDb h604)) .nil) ?_
        apply Wc.seq
        apply Wc.seq
        rcases oif h with ⟨h605, h⟩ | ⟨h605, h⟩
        · refine Wc.region [{}, {}, { re := some (.bool true) }] [] [1, 4, 6, 42] [1, 4, 6] [] ⟨[(1, (.ptr 1 0, [])), (4, (.ptr 4 0, [])), (6, (.ptr 6 0, [])), (42, (.v (.bool true), []))], [(1, .cells (GDb.q z4) []), (4, .cells (GStore.q u00) [(0, .app 128), (1, .app 9)]), (6, .cells [.slx, .slx, .int .i64 v4.gNow] [(0, .ex 128 true (List.map GKept.c v4.gList)), (1, .ex 9 true (List.map cS v4.gOpen))])], []⟩ _ (by kernel_rfl) (.cons (congrArg AV.bool h605) .nil) ?_
          refine Wc.condT rfl (by kernel_rfl) ?_
          apply Wc.seq
          refine Wc.region [] [] [2] [] [] ⟨[(2, (.v (.bool false), []))], [], []⟩ _ (by kernel_rfl) .nil ?_
          refine Wc.ret ?_
          obtain rfl := Option.some.inj h
          exact ⟨.inl rfl, by kernel_rfl, by kernel_rfl⟩
        · obtain ⟨u5i, h606, h⟩ := obind h
          refine Wc.region [{}, {}, { re := some (.bool false) }, {}, {}, { r := some (.v (.bool u5i) []) }] [] [1, 4, 6, 42] [1, 4, 6] [] ⟨[(1, (.ptr 1 0, [])), (4, (.ptr 4 0, [])), (6, (.ptr 6 0, [])), (42, (.v (.bool (!u5i)), []))], [(1, .cells (GDb.q z4) []), (4, .cells (GStore.q u00) [(0, .app 128), (1, .app 9)]), (6, .cells [.slx, .slx, .int .i64 v4.gNow] [(0, .ex 128 true (List.map GKept.c v4.gList)), (1, .ex 9 true (List.map cS v4.gOpen))])], []⟩ _ (by kernel_rfl) (.cons (congrArg AV.bool h605) (.cons (claws_eqStore h606) .nil)) ?_
          rcases oif h with ⟨h607, h⟩ | ⟨h607, h⟩
          · refine Wc.condT h607 (by kernel_rfl) ?_
            apply Wc.seq
            refine Wc.region [] [] [2] [] [] ⟨[(2, (.v (.bool false), []))], [], []⟩ _ (by kernel_rfl) .nil ?_
            refine Wc.ret ?_
            obtain rfl := Option.some.inj h
            exact ⟨.inl rfl, by kernel_rfl, by kernel_rfl⟩
          · refine Wc.condF h607 (by kernel_rfl) ?_
            refine Wc.fix (st' := ⟨[(1, (.ptr 1 0, [])), (4, (.ptr 4 0, [])), (6, (.ptr 6 0, []))], [(1, .cells (GDb.q z4) []), (4, .cells (GStore.q u00) [(0, .app 128), (1, .app 9)]), (6, .cells [.slx, .slx, .int .i64 v4.gNow] [(0, .ex 128 true (List.map GKept.c v4.gList)), (1, .ex 9 true (List.map cS v4.gOpen))])], []⟩) [] [1, 4, 6] [1, 4, 6] [] (by kernel_rfl) ?_
            refine Wc.skip ?_
            apply Wc.seq
            refine Wc.region [] [] [1, 4, 6, 8] [1, 4, 6] [] ⟨[(1, (.ptr 1 0, [])), (4, (.ptr 4 0, [])), (6, (.ptr 6 0, [])), (8, (.v (.int .i64 1), []))], [(1, .cells (GDb.q z4) []), (4, .cells (GStore.q u00) [(0, .app 128), (1, .app 9)]), (6, .cells [.slx, .slx, .int .i64 v4.gNow] [(0, .ex 128 true (List.map GKept.c v4.gList)), (1, .ex 9 true (List.map cS v4.gOpen))])], []⟩ _ (by kernel_rfl) .nil ?_
            apply Wc.seq
            obtain ⟨vc, h608, h⟩ := obind h
            refine Wc.region [{}, {}, { io := [0], r := some (.v (.int .i64 vc.2) []), outs := [(0, .v .undef [(0, .ex 1000000007 true (List.map GKept.c vc.1.gList)), (1, .ex 1000000007 true (List.map cS vc.1.gOpen))])] }] [] [1, 4, 6, 8] [1, 4, 6] [] ⟨[(1, (.ptr 1 0, [])), (4, (.ptr 4 0, [])), (6, (.ptr 6 0, [])), (8, (.v (.int .i64 vc.2), []))], [(1, .cells (GDb.q z4) []), (4, .cells (GStore.q u00) [(0, .app 128), (1, .app 9)]), (6, .cells [.slx, .slx, .int .i64 v4.gNow] [(0, .ex 1000000007 true (List.map GKept.c vc.1.gList)), (1, .ex 1000000007 true (List.map cS vc.1.gOpen))])], []⟩ _ (by kernel_rfl) (.cons (FnO.any (args := [.io (.agg [.slx, .slx, .int .i64 v4.gNow]) [(0, .ex 128 true (List.map GKept.c v4.gList)), (1, .ex 9 true (List.map cS v4.gOpen))], .v (.int .i64 1) []]) (claws_markStore h608)) .nil) ?_
            apply Wc.seq
            refine Wc.region [] [] [1, 4, 6, 8, 9] [1, 4, 6] [] ⟨[(1, (.ptr 1 0, [])), (4, (.ptr 4 0, [])), (6, (.ptr 6 0, [])), (8, (.v (.int .i64 vc.2), [])), (9, (.v (.int .i64 1), []))], [(1, .cells (GDb.q z4) []), (4, .cells (GStore.q u00) [(0, .app 128), (1, .app 9)]), (6, .cells [.slx, .slx, .int .i64 v4.gNow] [(0, .ex 1000000007 true (List.map GKept.c vc.1.gList)), (1, .ex 1000000007 true (List.map cS vc.1.gOpen))])], []⟩ _ (by kernel_rfl) .nil ?_
            apply Wc.seq
            obtain ⟨u5k, h609, h⟩ := obind h
            refine Wc.region [{}, {}, { r := some (.v (.int .i64 u5k) []) }] [] [1, 4, 6, 8, 9] [1, 4, 6] [] ⟨[(1, (.ptr 1 0, [])), (4, (.ptr 4 0, [])), (6, (.ptr 6 0, [])), (8, (.v (.int .i64 vc.2), [])), (9, (.v (.int .i64 u5k), []))], [(1, .cells (GDb.q z4) []), (4, .cells (GStore.q u00) [(0, .app 128), (1, .app 9)]), (6, .cells [.slx, .slx, .int .i64 v4.gNow] [(0, .ex 1000000007 true (List.map GKept.c vc.1.gList)), (1, .ex 1000000007 true (List.map cS vc.1.gOpen))])], []⟩ _ (by kernel_rfl) (.cons (claws_heldStore h609) .nil) ?_
            apply Wc.seq
            apply Wc.seq
            refine Wc.region [] [] [1, 4, 6, 8, 9, 50] [1, 4, 6] [] ⟨[(1, (.ptr 1 0, [])), (4, (.ptr 4 0, [])), (6, (.ptr 6 0, [])), (8, (.v (.int .i64 vc.2), [])), (9, (.v (.int .i64 u5k), [])), (50, (.v (.bool (decide (u5k < 0))), []))], [(1, .cells (GDb.q z4) []), (4, .cells (GStore.q u00) [(0, .app 128), (1, .app 9)]), (6, .cells [.slx, .slx, .int .i64 v4.gNow] [(0, .ex 1000000007 true (List.map GKept.c vc.1.gList)), (1, .ex 1000000007 true (List.map cS vc.1.gOpen))])], []⟩ _ (by kernel_rfl) .nil ?_
            rcases oif h with ⟨h610, h⟩ | ⟨h610, h⟩
            · refine Wc.condT h610 (by kernel_rfl) ?_
              apply Wc.seq
              refine Wc.region [] [] [2] [] [] ⟨[(2, (.v (.bool false), []))], [], []⟩ _ (by kernel_rfl) .nil ?_
              refine Wc.ret ?_
              obtain rfl := Option.some.inj h
              exact ⟨.inl rfl, by kernel_rfl, by kernel_rfl⟩
            · refine Wc.condF h610 (by kernel_rfl) ?_
              refine Wc.fix (st' := ⟨[(1, (.ptr 1 0, [])), (4, (.ptr 4 0, [])), (6, (.ptr 6 0, [])), (8, (.v (.int .i64 vc.2), [])), (9, (.v (.int .i64 u5k), []))], [(1, .cells (GDb.q z4) []), (4, .cells (GStore.q u00) [(0, .app 128), (1, .app 9)]), (6, .cells [.slx, .slx, .int .i64 v4.gNow] [(0, .ex 1000000007 true (List.map GKept.c vc.1.gList)), (1, .ex 1000000007 true (List.map cS vc.1.gOpen))])], []⟩) [] [1, 4, 6, 8, 9] [1, 4, 6] [] (by kernel_rfl) ?_
              refine Wc.skip ?_
              apply Wc.seq
              apply Wc.seq
              refine Wc.region [] [] [1, 4, 6, 8, 53] [1, 4, 6] [] ⟨[(1, (.ptr 1 0, [])), (4, (.ptr 4 0, [])), (6, (.ptr 6 0, [])), (8, (.v (.int .i64 vc.2), [])), (53, (.v (.bool (u5k != vc.2)), []))], [(1, .cells (GDb.q z4) []), (4, .cells (GStore.q u00) [(0, .app 128), (1, .app 9)]), (6, .cells [.slx, .slx, .int .i64 v4.gNow] [(0, .ex 1000000007 true (List.map GKept.c vc.1.gList)), (1, .ex 1000000007 true (List.map cS vc.1.gOpen))])], []⟩ _ (by kernel_rfl) .nil ?_
              rcases oif h with ⟨h611, h⟩ | ⟨h611, h⟩
              · refine Wc.condT h611 (by kernel_rfl) ?_
                apply Wc.seq
                refine Wc.region [] [] [2] [] [] ⟨[(2, (.v (.bool false), []))], [], []⟩ _ (by kernel_rfl) .nil ?_
                refine Wc.ret ?_
                obtain rfl := Option.some.inj h
                exact ⟨.inl rfl, by kernel_rfl, by kernel_rfl⟩
              · refine Wc.condF h611 (by kernel_rfl) ?_
                refine Wc.fix (st' := ⟨[(1, (.ptr 1 0, [])), (4, (.ptr 4 0, [])), (6, (.ptr 6 0, [])), (8, (.v (.int .i64 vc.2), []))], [(1, .cells (GDb.q z4) []), (4, .cells (GStore.q u00) [(0, .app 128), (1, .app 9)]), (6, .cells [.slx, .slx, .int .i64 v4.gNow] [(0, .ex 1000000007 true (List.map GKept.c vc.1.gList)), (1, .ex 1000000007 true (List.map cS vc.1.gOpen))])], []⟩) [] [1, 4, 6, 8] [1, 4, 6] [] (by kernel_rfl) ?_
                refine Wc.skip ?_
                apply Wc.seq
                obtain ⟨uc7, h612, h⟩ := obind h
                obtain ⟨vj, h613, h⟩ := obind h
                refine Wc.region [{}, { r := some (.v (.agg (GDb.q uc7)) []) }, { r := some (.v (.agg (GStore.q vj)) [(0, .app 128), (1, .app 9)]) }, {}, { tk := [56] }] [] [4, 6, 8, 10] [4, 6, 10] [] ⟨[(4, (.ptr 4 0, [])), (6, (.ptr 6 0, [])), (8, (.v (.int .i64 vc.2), [])), (10, (.ptr 10 0, []))], [(4, .cells (GStore.q u00) [(0, .app 128), (1, .app 9)]), (6, .cells [.slx, .slx, .int .i64 v4.gNow] [(0, .ex 1000000007 true (List.map GKept.c vc.1.gList)), (1, .ex 1000000007 true (List.map cS vc.1.gOpen))]), (10, .cells (GStore.q vj) [(0, .app 128), (1, .app 9)])], []⟩ _ (by kernel_rfl) (.cons (claws_toDb h612) (.cons (cimpl_StoreOf h613) .nil)) ?_
                apply Wc.seq
                apply Wc.seq
                obtain ⟨uc1, h614, h⟩ := obind h
                refine Wc.region [{}, {}, { r := some (.v (.bool uc1) []) }] [] [6, 8, 60] [6] [] ⟨[(6, (.ptr 6 0, [])), (8, (.v (.int .i64 vc.2), [])), (60, (.v (.bool (!uc1)), []))], [(6, .cells [.slx, .slx, .int .i64 v4.gNow] [(0, .ex 1000000007 true (List.map GKept.c vc.1.gList)), (1, .ex 1000000007 true (List.map cS vc.1.gOpen))])], []⟩ _ (by kernel_rfl) (.cons (claws_eqStore h614) .nil) ?_
                rcases oif h with ⟨h615, h⟩ | ⟨h615, h⟩
                · refine Wc.condT h615 (by kernel_rfl) ?_
                  apply Wc.seq
                  refine Wc.region [] [] [2] [] [] ⟨[(2, (.v (.bool false), []))], [], []⟩ _ (by kernel_rfl) .nil ?_
                  refine Wc.ret ?_
                  obtain rfl := Option.some.inj h
                  exact ⟨.inl rfl, by kernel_rfl, by kernel_rfl⟩
                · refine Wc.condF h615 (by kernel_rfl) ?_
                  refine Wc.fix (st' := ⟨[(6, (.ptr 6 0, [])), (8, (.v (.int .i64 vc.2), []))], [(6, .cells [.slx, .slx, .int .i64 v4.gNow] [(0, .ex 1000000007 true (List.map GKept.c vc.1.gList)), (1, .ex 1000000007 true (List.map cS vc.1.gOpen))])], []⟩) [] [6, 8] [6] [] (by kernel_rfl) ?_
                  refine Wc.skip ?_
                  apply Wc.seq
                  refine Wc.region [] [] [6, 8, 9] [6] [] ⟨[(6, (.ptr 6 0, [])), (8, (.v (.int .i64 vc.2), [])), (9, (.v (.int .i64 1), []))], [(6, .cells [.slx, .slx, .int .i64 v4.gNow] [(0, .ex 1000000007 true (List.map GKept.c vc.1.gList)), (1, .ex 1000000007 true (List.map cS vc.1.gOpen))])], []⟩ _ (by kernel_rfl) .nil ?_
                  apply Wc.seq
                  obtain ⟨u30, h616, h⟩ := obind h
                  refine Wc.region [{}, {}, { r := some (.v (.int .i64 u30) []) }] [] [8, 9] [] [] ⟨[(8, (.v (.int .i64 vc.2), [])), (9, (.v (.int .i64 u30), []))], [], []⟩ _ (by kernel_rfl) (.cons (claws_heldStore h616) .nil) ?_
                  apply Wc.seq
                  apply Wc.seq
                  refine Wc.region [] [] [8, 9, 65] [] [] ⟨[(8, (.v (.int .i64 vc.2), [])), (9, (.v (.int .i64 u30), [])), (65, (.v (.bool (decide (u30 < 0))), []))], [], []⟩ _ (by kernel_rfl) .nil ?_
                  rcases oif h with ⟨h617, h⟩ | ⟨h617, h⟩
                  · refine Wc.condT h617 (by kernel_rfl) ?_
                    apply Wc.seq
                    refine Wc.region [] [] [2] [] [] ⟨[(2, (.v (.bool false), []))], [], []⟩ _ (by kernel_rfl) .nil ?_
                    refine Wc.ret ?_
                    obtain rfl := Option.some.inj h
                    exact ⟨.inl rfl, by kernel_rfl, by kernel_rfl⟩
                  · refine Wc.condF h617 (by kernel_rfl) ?_
                    refine Wc.fix (st' := ⟨[(8, (.v (.int .i64 vc.2), [])), (9, (.v (.int .i64 u30), []))], [], []⟩) [] [8, 9] [] [] (by kernel_rfl) ?_
                    refine Wc.skip ?_
                    apply Wc.seq
                    apply Wc.seq
                    refine Wc.region [] [] [68] [] [] ⟨[(68, (.v (.bool (u30 != vc.2)), []))], [], []⟩ _ (by kernel_rfl) .nil ?_
                    rcases oif h with ⟨h618, h⟩ | ⟨h618, h⟩
                    · refine Wc.condT h618 (by kernel_rfl) ?_
                      apply Wc.seq
                      refine Wc.region [] [] [2] [] [] ⟨[(2, (.v (.bool false), []))], [], []⟩ _ (by kernel_rfl) .nil ?_
                      refine Wc.ret ?_
                      obtain rfl := Option.some.inj h
                      exact ⟨.inl rfl, by kernel_rfl, by kernel_rfl⟩
                    · refine Wc.condF h618 (by kernel_rfl) ?_
                      refine Wc.fix (st' := ⟨[], [], []⟩) [] [] [] [] (by kernel_rfl) ?_
                      refine Wc.skip ?_
                      apply Wc.seq
                      refine Wc.region [] [] [2] [] [] ⟨[(2, (.v (.bool true), []))], [], []⟩ _ (by kernel_rfl) .nil ?_
                      refine Wc.ret ?_
                      obtain rfl := Option.some.inj h
                      exact ⟨.inl rfl, by kernel_rfl, by kernel_rfl⟩
end Go.Proofs.Ytgfpmdaihkdhkaa

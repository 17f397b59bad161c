/- What the functions do, part 2. -/
import Derived.Test.YthemaodhckmnkaaFna
set_option linter.unusedVariables false
set_option linter.unusedSimpArgs false
namespace Go.Proofs.Ythemaodhckmnkaa
open Go.RowKit Go.Bv
/-- impl.Backward -/
def pimpl_Backward (k : Nat) (f236_ : GTerm) : Option (GTerm × Bool) :=
  (pimpl_ItemsOf_d k f236_).bind fun p237_ =>
  if (!p237_.2) = true then
    some (GTerm.mk 0 (bs []) 0 [], false)
  else
    (pslices_Reverse___impl_Term_impl_Term_ k p237_.1).bind fun q238_ =>
    (pimpl_atom k (bs [91, 93])).bind fun f239_ =>
    (pimpl_listOf k q238_ f239_).bind fun f240_ =>
    (pimpl_TermOk k f240_).bind fun g241_ =>
    if (!g241_) = true then
      some (GTerm.mk 0 (bs []) 0 [], false)
    else
      some (f240_, true)
theorem cimpl_Backward {k : Nat} {f236_ : GTerm} {r : GTerm × Bool} (h : pimpl_Backward k f236_ = some r) : FnO Try.prog 23 [.v (.agg [.int .i64 f236_.gKind, .str f236_.gName, .int .i64 f236_.gNum, .sl (List.map GTerm.c f236_.gKids)]) []] (.v (.tup [.agg [.int .i64 r.1.gKind, .str r.1.gName, .int .i64 r.1.gNum, .sl (List.map GTerm.c r.1.gKids)], .bool r.2]) []) [] := by
  refine FnO.of Try.func23 (rfl : Try.f23.body = some _) (Nat.le_of_ble_eq_true (by kernel_rfl)) (Nat.le_of_ble_eq_true (by kernel_rfl)) ?_
  intro w0 X0 Fin pv0 pb
  unfold pimpl_Backward at h
  refine Wc.seq ?_
  refine Wc.region [] [] [1, 2] [1, 2] [] ⟨[(1, (.ptr 1 0, [])), (2, (.ptr 2 0, []))], [(1, .cells [.int .i64 f236_.gKind, .str f236_.gName, .int .i64 f236_.gNum, .sl (List.map GTerm.c f236_.gKids)] []), (2, .cells [.int .i64 0, .str (bs []), .int .i64 0, .sl (List.map GTerm.c [])] [(3, .app 41)])], []⟩ _ (by kernel_rfl) .nil ?_
  refine Wc.seq ?_
  obtain ⟨p237_, h245, h⟩ := obind h
  refine Wc.region [{}, { r := some (.v (.tup [.slx, .bool p237_.2]) [(0, .ex 41 true (List.map GTerm.c p237_.1))]) }, { tk := [9] }, { tk := [7] }, {}, { tk := [10] }] [] [2, 4, 5] [2] [] ⟨[(2, (.ptr 2 0, [])), (4, (.v (.slx), [(0, .ex 41 true (List.map GTerm.c p237_.1))])), (5, (.v (.bool p237_.2), []))], [(2, .cells [.int .i64 0, .str (bs []), .int .i64 0, .sl (List.map GTerm.c [])] [(3, .app 41)])], []⟩ _ (by kernel_rfl) (.cons (cimpl_ItemsOf_d h245) .nil) ?_
  refine Wc.seq ?_
  refine Wc.seq ?_
  refine Wc.region [] [] [2, 4, 13] [2] [] ⟨[(2, (.ptr 2 0, [])), (4, (.v (.slx), [(0, .ex 41 true (List.map GTerm.c p237_.1))])), (13, (.v (.bool (!p237_.2)), []))], [(2, .cells [.int .i64 0, .str (bs []), .int .i64 0, .sl (List.map GTerm.c [])] [(3, .app 41)])], []⟩ _ (by kernel_rfl) .nil ?_
  rcases oif h with ⟨h246, h⟩ | ⟨h246, h⟩
  · refine Wc.condT h246 (by kernel_rfl) ?_
    refine Wc.seq ?_
    refine Wc.region [{}, { tk := [14] }] [] [2, 3] [2] [] ⟨[(2, (.ptr 2 0, [])), (3, (.v (.bool false), []))], [(2, .cells [.int .i64 0, .str (bs []), .int .i64 0, .sl (List.map GTerm.c [])] [(3, .app 41)])], []⟩ _ (by kernel_rfl) .nil ?_
    refine Wc.fix (st' := ⟨[(2, (.ptr 2 0, [])), (3, (.v (.bool false), []))], [(2, .cells [.int .i64 0, .str (bs []), .int .i64 0, .sl (List.map GTerm.c [])] [])], []⟩) [.un (.b 2 3)] [2, 3] [2] [] (by kernel_rfl) ?_
    refine Wc.ret ?_
    obtain rfl := Option.some.inj h
    exact ⟨.inl rfl, by kernel_rfl, by kernel_rfl⟩
  · refine Wc.condF h246 (by kernel_rfl) ?_
    refine Wc.fix (st' := ⟨[(2, (.ptr 2 0, [])), (4, (.v (.slx), [(0, .ex 41 true (List.map GTerm.c p237_.1))]))], [(2, .cells [.int .i64 0, .str (bs []), .int .i64 0, .sl (List.map GTerm.c [])] [(3, .app 41)])], []⟩) [] [2, 4] [2] [] (by kernel_rfl) ?_
    refine Wc.skip ?_
    refine Wc.seq ?_
    obtain ⟨q238_, h247, h⟩ := obind h
    refine Wc.region [{ fx := [.ag (.t 4 0)] }, { io := [0], r := some (.v (.tup []) []), outs := [(0, .v .undef [(0, .ex 1000000007 false (List.map GTerm.c q238_))])] }] [] [2, 4] [2] [] ⟨[(2, (.ptr 2 0, [])), (4, (.v (.slx), [(0, .ex 1000000007 false (List.map GTerm.c q238_))]))], [(2, .cells [.int .i64 0, .str (bs []), .int .i64 0, .sl (List.map GTerm.c [])] [(3, .app 41)])], []⟩ _ (by kernel_rfl) (.cons (FnO.any (args := [.io (.slx) [(0, .ex 41 false (List.map GTerm.c p237_.1))]]) (cslices_Reverse___impl_Term_impl_Term_ h247)) .nil) ?_
    refine Wc.seq ?_
    obtain ⟨f239_, h248, h⟩ := obind h
    obtain ⟨f240_, h249, h⟩ := obind h
    refine Wc.region [{ tk := [4] }, { r := some (.v (.agg [.int .i64 f239_.gKind, .str f239_.gName, .int .i64 f239_.gNum, .sl (List.map GTerm.c f239_.gKids)]) [(3, .app 41)]), fx := [.sh (.t 17 0)] }, { r := some (.v (.agg [.int .i64 f240_.gKind, .str f240_.gName, .int .i64 f240_.gNum, .sl (List.map GTerm.c f240_.gKids)]) []) }] [] [2, 6] [2, 6] [] ⟨[(2, (.ptr 2 0, [])), (6, (.ptr 6 0, []))], [(2, .cells [.int .i64 0, .str (bs []), .int .i64 0, .sl (List.map GTerm.c [])] [(3, .app 41)]), (6, .cells [.int .i64 f240_.gKind, .str f240_.gName, .int .i64 f240_.gNum, .sl (List.map GTerm.c f240_.gKids)] [])], []⟩ _ (by kernel_rfl) (.cons (cimpl_atom h248) (.cons (cimpl_listOf h249) .nil)) ?_
    refine Wc.seq ?_
    refine Wc.seq ?_
    obtain ⟨g241_, h250, h⟩ := obind h
    refine Wc.region [{}, { r := some (.v (.bool g241_) []) }] [] [2, 6, 22] [2, 6] [] ⟨[(2, (.ptr 2 0, [])), (6, (.ptr 6 0, [])), (22, (.v (.bool (!g241_)), []))], [(2, .cells [.int .i64 0, .str (bs []), .int .i64 0, .sl (List.map GTerm.c [])] [(3, .app 41)]), (6, .cells [.int .i64 f240_.gKind, .str f240_.gName, .int .i64 f240_.gNum, .sl (List.map GTerm.c f240_.gKids)] [])], []⟩ _ (by kernel_rfl) (.cons (cimpl_TermOk h250) .nil) ?_
    rcases oif h with ⟨h251, h⟩ | ⟨h251, h⟩
    · refine Wc.condT h251 (by kernel_rfl) ?_
      refine Wc.seq ?_
      refine Wc.region [{}, { tk := [23] }] [] [2, 3] [2] [] ⟨[(2, (.ptr 2 0, [])), (3, (.v (.bool false), []))], [(2, .cells [.int .i64 0, .str (bs []), .int .i64 0, .sl (List.map GTerm.c [])] [(3, .app 41)])], []⟩ _ (by kernel_rfl) .nil ?_
      refine Wc.fix (st' := ⟨[(2, (.ptr 2 0, [])), (3, (.v (.bool false), []))], [(2, .cells [.int .i64 0, .str (bs []), .int .i64 0, .sl (List.map GTerm.c [])] [])], []⟩) [.un (.b 2 3)] [2, 3] [2] [] (by kernel_rfl) ?_
      refine Wc.ret ?_
      obtain rfl := Option.some.inj h
      exact ⟨.inl rfl, by kernel_rfl, by kernel_rfl⟩
    · refine Wc.condF h251 (by kernel_rfl) ?_
      refine Wc.fix (st' := ⟨[(2, (.ptr 2 0, [])), (6, (.ptr 6 0, []))], [(2, .cells [.int .i64 0, .str (bs []), .int .i64 0, .sl (List.map GTerm.c [])] [(3, .app 41)]), (6, .cells [.int .i64 f240_.gKind, .str f240_.gName, .int .i64 f240_.gNum, .sl (List.map GTerm.c f240_.gKids)] [])], []⟩) [] [2, 6] [2, 6] [] (by kernel_rfl) ?_
      refine Wc.skip ?_
      refine Wc.seq ?_
      refine Wc.region [] [] [2, 3] [2] [] ⟨[(2, (.ptr 2 0, [])), (3, (.v (.bool true), []))], [(2, .cells [.int .i64 f240_.gKind, .str f240_.gName, .int .i64 f240_.gNum, .sl (List.map GTerm.c f240_.gKids)] [])], []⟩ _ (by kernel_rfl) .nil ?_
      refine Wc.ret ?_
      obtain rfl := Option.some.inj h
      exact ⟨.inl rfl, by kernel_rfl, by kernel_rfl⟩

/-- impl.JoinedLists -/
def pimpl_JoinedLists (k : Nat) (f249_ : GTerm) (f250_ : GTerm) : Option (GTerm × Bool) :=
  (pimpl_ItemsOf k f249_).bind fun p251_ =>
  (pimpl_ItemsOf k f250_).bind fun p252_ =>
  (pimpl_copyTerm k f250_).bind fun f253_ =>
  (pimpl_listOf k p251_.1 f253_).bind fun f254_ =>
  if (!p251_.2) = true then
    some (GTerm.mk 0 (bs []) 0 [], false)
  else
    if (!p252_.2) = true then
      some (GTerm.mk 0 (bs []) 0 [], false)
    else
      (pimpl_TermOk k f254_).bind fun g255_ =>
      if (!g255_) = true then
        some (GTerm.mk 0 (bs []) 0 [], false)
      else
        some (f254_, true)
theorem cimpl_JoinedLists {k : Nat} {f249_ : GTerm} {f250_ : GTerm} {r : GTerm × Bool} (h : pimpl_JoinedLists k f249_ f250_ = some r) : FnO Try.prog 24 [.v (.agg [.int .i64 f249_.gKind, .str f249_.gName, .int .i64 f249_.gNum, .sl (List.map GTerm.c f249_.gKids)]) [], .v (.agg [.int .i64 f250_.gKind, .str f250_.gName, .int .i64 f250_.gNum, .sl (List.map GTerm.c f250_.gKids)]) []] (.v (.tup [.agg [.int .i64 r.1.gKind, .str r.1.gName, .int .i64 r.1.gNum, .sl (List.map GTerm.c r.1.gKids)], .bool r.2]) []) [] := by
  refine FnO.of Try.func24 (rfl : Try.f24.body = some _) (Nat.le_of_ble_eq_true (by kernel_rfl)) (Nat.le_of_ble_eq_true (by kernel_rfl)) ?_
  intro w0 X0 Fin pv0 pb
  unfold pimpl_JoinedLists at h
  refine Wc.seq ?_
  refine Wc.region [] [] [2, 3, 4] [2, 3, 4] [] ⟨[(2, (.ptr 2 0, [])), (3, (.ptr 3 0, [])), (4, (.ptr 4 0, []))], [(2, .cells [.int .i64 f249_.gKind, .str f249_.gName, .int .i64 f249_.gNum, .sl (List.map GTerm.c f249_.gKids)] []), (3, .cells [.int .i64 f250_.gKind, .str f250_.gName, .int .i64 f250_.gNum, .sl (List.map GTerm.c f250_.gKids)] []), (4, .cells [.int .i64 0, .str (bs []), .int .i64 0, .sl (List.map GTerm.c [])] [(3, .app 41)])], []⟩ _ (by kernel_rfl) .nil ?_
  refine Wc.seq ?_
  obtain ⟨p251_, h260, h⟩ := obind h
  refine Wc.region [{}, { r := some (.v (.tup [.sl (List.map GTerm.c p251_.1), .bool p251_.2]) [(0, .app 41)]) }, { tk := [13] }, { tk := [11] }, {}, { tk := [14] }] [] [3, 4, 6, 7] [3, 4] [] ⟨[(3, (.ptr 3 0, [])), (4, (.ptr 4 0, [])), (6, (.v (.sl (List.map GTerm.c p251_.1)), [(0, .app 41)])), (7, (.v (.bool p251_.2), []))], [(3, .cells [.int .i64 f250_.gKind, .str f250_.gName, .int .i64 f250_.gNum, .sl (List.map GTerm.c f250_.gKids)] []), (4, .cells [.int .i64 0, .str (bs []), .int .i64 0, .sl (List.map GTerm.c [])] [(3, .app 41)])], []⟩ _ (by kernel_rfl) (.cons (cimpl_ItemsOf h260) .nil) ?_
  refine Wc.seq ?_
  obtain ⟨p252_, h261, h⟩ := obind h
  refine Wc.region [{}, { r := some (.v (.tup [.sl (List.map GTerm.c p252_.1), .bool p252_.2]) [(0, .app 41)]) }, { tk := [18] }, { tk := [16] }, {}, { tk := [19] }] [] [3, 4, 6, 7, 9] [3, 4] [] ⟨[(3, (.ptr 3 0, [])), (4, (.ptr 4 0, [])), (6, (.v (.sl (List.map GTerm.c p251_.1)), [(0, .app 41)])), (7, (.v (.bool p251_.2), [])), (9, (.v (.bool p252_.2), []))], [(3, .cells [.int .i64 f250_.gKind, .str f250_.gName, .int .i64 f250_.gNum, .sl (List.map GTerm.c f250_.gKids)] []), (4, .cells [.int .i64 0, .str (bs []), .int .i64 0, .sl (List.map GTerm.c [])] [(3, .app 41)])], []⟩ _ (by kernel_rfl) (.cons (cimpl_ItemsOf h261) .nil) ?_
  refine Wc.seq ?_
  obtain ⟨f253_, h262, h⟩ := obind h
  obtain ⟨f254_, h263, h⟩ := obind h
  refine Wc.region [{ tk := [6] }, {}, { r := some (.v (.agg [.int .i64 f253_.gKind, .str f253_.gName, .int .i64 f253_.gNum, .sl (List.map GTerm.c f253_.gKids)]) [(3, .app 41)]) }, { r := some (.v (.agg [.int .i64 f254_.gKind, .str f254_.gName, .int .i64 f254_.gNum, .sl (List.map GTerm.c f254_.gKids)]) []) }] [] [4, 7, 9, 10] [4, 10] [] ⟨[(4, (.ptr 4 0, [])), (7, (.v (.bool p251_.2), [])), (9, (.v (.bool p252_.2), [])), (10, (.ptr 10 0, []))], [(4, .cells [.int .i64 0, .str (bs []), .int .i64 0, .sl (List.map GTerm.c [])] [(3, .app 41)]), (10, .cells [.int .i64 f254_.gKind, .str f254_.gName, .int .i64 f254_.gNum, .sl (List.map GTerm.c f254_.gKids)] [])], []⟩ _ (by kernel_rfl) (.cons (cimpl_copyTerm h262) (.cons (cimpl_listOf h263) .nil)) ?_
  refine Wc.seq ?_
  refine Wc.seq ?_
  rcases oif h with ⟨h264, h⟩ | ⟨h264, h⟩
  · refine Wc.region [{}, {}, { re := some (.bool true) }] [] [4, 10, 35] [4, 10] [] ⟨[(4, (.ptr 4 0, [])), (10, (.ptr 10 0, [])), (35, (.v (.bool true), []))], [(4, .cells [.int .i64 0, .str (bs []), .int .i64 0, .sl (List.map GTerm.c [])] [(3, .app 41)]), (10, .cells [.int .i64 f254_.gKind, .str f254_.gName, .int .i64 f254_.gNum, .sl (List.map GTerm.c f254_.gKids)] [])], []⟩ _ (by kernel_rfl) (.cons (congrArg AV.bool h264) .nil) ?_
    refine Wc.condT rfl (by kernel_rfl) ?_
    refine Wc.seq ?_
    refine Wc.region [{}, { tk := [36] }] [] [4, 5] [4] [] ⟨[(4, (.ptr 4 0, [])), (5, (.v (.bool false), []))], [(4, .cells [.int .i64 0, .str (bs []), .int .i64 0, .sl (List.map GTerm.c [])] [(3, .app 41)])], []⟩ _ (by kernel_rfl) .nil ?_
    refine Wc.fix (st' := ⟨[(4, (.ptr 4 0, [])), (5, (.v (.bool false), []))], [(4, .cells [.int .i64 0, .str (bs []), .int .i64 0, .sl (List.map GTerm.c [])] [])], []⟩) [.un (.b 4 3)] [4, 5] [4] [] (by kernel_rfl) ?_
    refine Wc.ret ?_
    obtain rfl := Option.some.inj h
    exact ⟨.inl rfl, by kernel_rfl, by kernel_rfl⟩
  · rcases oif h with ⟨h265, h⟩ | ⟨h265, h⟩
    · refine Wc.region [{}, {}, { re := some (.bool false) }, {}, {}, {}, { re := some (.bool true) }] [] [4, 10, 35] [4, 10] [] ⟨[(4, (.ptr 4 0, [])), (10, (.ptr 10 0, [])), (35, (.v (.bool true), []))], [(4, .cells [.int .i64 0, .str (bs []), .int .i64 0, .sl (List.map GTerm.c [])] [(3, .app 41)]), (10, .cells [.int .i64 f254_.gKind, .str f254_.gName, .int .i64 f254_.gNum, .sl (List.map GTerm.c f254_.gKids)] [])], []⟩ _ (by kernel_rfl) (.cons (congrArg AV.bool h264) (.cons (congrArg AV.bool h265) .nil)) ?_
      refine Wc.condT rfl (by kernel_rfl) ?_
      refine Wc.seq ?_
      refine Wc.region [{}, { tk := [36] }] [] [4, 5] [4] [] ⟨[(4, (.ptr 4 0, [])), (5, (.v (.bool false), []))], [(4, .cells [.int .i64 0, .str (bs []), .int .i64 0, .sl (List.map GTerm.c [])] [(3, .app 41)])], []⟩ _ (by kernel_rfl) .nil ?_
      refine Wc.fix (st' := ⟨[(4, (.ptr 4 0, [])), (5, (.v (.bool false), []))], [(4, .cells [.int .i64 0, .str (bs []), .int .i64 0, .sl (List.map GTerm.c [])] [])], []⟩) [.un (.b 4 3)] [4, 5] [4] [] (by kernel_rfl) ?_
      refine Wc.ret ?_
      obtain rfl := Option.some.inj h
      exact ⟨.inl rfl, by kernel_rfl, by kernel_rfl⟩
    · obtain ⟨g255_, h266, h⟩ := obind h
      refine Wc.region [{}, {}, { re := some (.bool false) }, {}, {}, {}, { re := some (.bool false) }, {}, { r := some (.v (.bool g255_) []) }] [] [4, 10, 35] [4, 10] [] ⟨[(4, (.ptr 4 0, [])), (10, (.ptr 10 0, [])), (35, (.v (.bool (!g255_)), []))], [(4, .cells [.int .i64 0, .str (bs []), .int .i64 0, .sl (List.map GTerm.c [])] [(3, .app 41)]), (10, .cells [.int .i64 f254_.gKind, .str f254_.gName, .int .i64 f254_.gNum, .sl (List.map GTerm.c f254_.gKids)] [])], []⟩ _ (by kernel_rfl) (.cons (congrArg AV.bool h264) (.cons (congrArg AV.bool h265) (.cons (cimpl_TermOk h266) .nil))) ?_
      rcases oif h with ⟨h267, h⟩ | ⟨h267, h⟩
      · refine Wc.condT h267 (by kernel_rfl) ?_
        refine Wc.seq ?_
        refine Wc.region [{}, { tk := [36] }] [] [4, 5] [4] [] ⟨[(4, (.ptr 4 0, [])), (5, (.v (.bool false), []))], [(4, .cells [.int .i64 0, .str (bs []), .int .i64 0, .sl (List.map GTerm.c [])] [(3, .app 41)])], []⟩ _ (by kernel_rfl) .nil ?_
        refine Wc.fix (st' := ⟨[(4, (.ptr 4 0, [])), (5, (.v (.bool false), []))], [(4, .cells [.int .i64 0, .str (bs []), .int .i64 0, .sl (List.map GTerm.c [])] [])], []⟩) [.un (.b 4 3)] [4, 5] [4] [] (by kernel_rfl) ?_
        refine Wc.ret ?_
        obtain rfl := Option.some.inj h
        exact ⟨.inl rfl, by kernel_rfl, by kernel_rfl⟩
      · refine Wc.condF h267 (by kernel_rfl) ?_
        refine Wc.fix (st' := ⟨[(4, (.ptr 4 0, [])), (10, (.ptr 10 0, []))], [(4, .cells [.int .i64 0, .str (bs []), .int .i64 0, .sl (List.map GTerm.c [])] [(3, .app 41)]), (10, .cells [.int .i64 f254_.gKind, .str f254_.gName, .int .i64 f254_.gNum, .sl (List.map GTerm.c f254_.gKids)] [])], []⟩) [] [4, 10] [4, 10] [] (by kernel_rfl) ?_
        refine Wc.skip ?_
        refine Wc.seq ?_
        refine Wc.region [] [] [4, 5] [4] [] ⟨[(4, (.ptr 4 0, [])), (5, (.v (.bool true), []))], [(4, .cells [.int .i64 f254_.gKind, .str f254_.gName, .int .i64 f254_.gNum, .sl (List.map GTerm.c f254_.gKids)] [])], []⟩ _ (by kernel_rfl) .nil ?_
        refine Wc.ret ?_
        obtain rfl := Option.some.inj h
        exact ⟨.inl rfl, by kernel_rfl, by kernel_rfl⟩

def pspec_SameTerm_L1 (k : Nat) (rspec_SameTerm : GTerm → GTerm → Option Bool) (f256_ : GTerm) (f257_ : GTerm) : Nat → Int → Option (Out Bool Unit)
  | 0, _ => none
  | m + 1, b258_ =>
    if (decide (b258_ < (f256_.gKids.length : Int))) = true then
      (at' f256_.gKids b258_).bind fun f259_ =>
      (at' f257_.gKids b258_).bind fun f260_ =>
      (rspec_SameTerm f259_ f260_).bind fun g261_ =>
      if (!g261_) = true then
        some (.ret false)
      else
        pspec_SameTerm_L1 k rspec_SameTerm f256_ f257_ m (wr.i64 (b258_ + 1))
    else
      some (.done ())
mutual
/-- spec.SameTerm -/
def pspec_SameTerm : Nat → GTerm → GTerm → Option Bool
  | 0, _, _ => none
  | k + 1, f256_, f257_ =>
    if (f256_.gKind != f257_.gKind) = true then
      some false
    else
      if (!(sEq f256_.gName f257_.gName)) = true then
        some false
      else
        if (f256_.gNum != f257_.gNum) = true then
          some false
        else
          if ((f256_.gKids.length : Int) != (f257_.gKids.length : Int)) = true then
            some false
          else
            (pspec_SameTerm_L1 k (pspec_SameTerm k) f256_ f257_ k 0).bind fun out1 => match out1 with
            | .ret r => some r
            | .done () =>
              some true
end
theorem all_pspec_SameTerm : ∀ k : Nat, (∀ {f256_ : GTerm} {f257_ : GTerm} {r : Bool}, pspec_SameTerm k f256_ f257_ = some r → FnO Try.prog 25 [.v (.agg [.int .i64 f256_.gKind, .str f256_.gName, .int .i64 f256_.gNum, .sl (List.map GTerm.c f256_.gKids)]) [], .v (.agg [.int .i64 f257_.gKind, .str f257_.gName, .int .i64 f257_.gNum, .sl (List.map GTerm.c f257_.gKids)]) []] (.v (.bool r) []) []) := by
  intro k
  induction k with
  | zero =>
    · intro f256_ f257_ r h
      exact (onone (by rw [pspec_SameTerm] at h; exact h)).elim
  | succ k ih =>
    have ih_pspec_SameTerm := @ih
    · intro f256_ f257_ r h
      rw [pspec_SameTerm] at h
      refine FnO.of Try.func25 (rfl : Try.f25.body = some _) (Nat.le_of_ble_eq_true (by kernel_rfl)) (Nat.le_of_ble_eq_true (by kernel_rfl)) ?_
      intro w0 X0 Fin pv0 pb
      refine Wc.seq ?_
      refine Wc.region [] [] [2, 3] [2, 3] [] ⟨[(2, (.ptr 2 0, [])), (3, (.ptr 3 0, []))], [(2, .cells [.int .i64 f256_.gKind, .str f256_.gName, .int .i64 f256_.gNum, .sl (List.map GTerm.c f256_.gKids)] []), (3, .cells [.int .i64 f257_.gKind, .str f257_.gName, .int .i64 f257_.gNum, .sl (List.map GTerm.c f257_.gKids)] [])], []⟩ _ (by kernel_rfl) .nil ?_
      refine Wc.seq ?_
      refine Wc.seq ?_
      rcases oif h with ⟨h268, h⟩ | ⟨h268, h⟩
      · refine Wc.region [{}, {}, {}, {}, {}, { re := some (.bool true) }] [] [2, 3, 33] [2, 3] [] ⟨[(2, (.ptr 2 0, [])), (3, (.ptr 3 0, [])), (33, (.v (.bool true), []))], [(2, .cells [.int .i64 f256_.gKind, .str f256_.gName, .int .i64 f256_.gNum, .sl (List.map GTerm.c f256_.gKids)] []), (3, .cells [.int .i64 f257_.gKind, .str f257_.gName, .int .i64 f257_.gNum, .sl (List.map GTerm.c f257_.gKids)] [])], []⟩ _ (by kernel_rfl) (.cons (congrArg AV.bool h268) .nil) ?_
        refine Wc.condT rfl (by kernel_rfl) ?_
        refine Wc.seq ?_
        refine Wc.region [] [] [4] [] [] ⟨[(4, (.v (.bool false), []))], [], []⟩ _ (by kernel_rfl) .nil ?_
        refine Wc.ret ?_
        obtain rfl := Option.some.inj h
        exact ⟨.inl rfl, by kernel_rfl, by kernel_rfl⟩
      · rcases oif h with ⟨h269, h⟩ | ⟨h269, h⟩
        · refine Wc.region [{}, {}, {}, {}, {}, { re := some (.bool false) }, {}, {}, {}, {}, {}, {}, { re := some (.bool true) }] [] [2, 3, 33] [2, 3] [] ⟨[(2, (.ptr 2 0, [])), (3, (.ptr 3 0, [])), (33, (.v (.bool true), []))], [(2, .cells [.int .i64 f256_.gKind, .str f256_.gName, .int .i64 f256_.gNum, .sl (List.map GTerm.c f256_.gKids)] []), (3, .cells [.int .i64 f257_.gKind, .str f257_.gName, .int .i64 f257_.gNum, .sl (List.map GTerm.c f257_.gKids)] [])], []⟩ _ (by kernel_rfl) (.cons (congrArg AV.bool h268) (.cons (congrArg AV.bool h269) .nil)) ?_
          refine Wc.condT rfl (by kernel_rfl) ?_
          refine Wc.seq ?_
          refine Wc.region [] [] [4] [] [] ⟨[(4, (.v (.bool false), []))], [], []⟩ _ (by kernel_rfl) .nil ?_
          refine Wc.ret ?_
          obtain rfl := Option.some.inj h
          exact ⟨.inl rfl, by kernel_rfl, by kernel_rfl⟩
        · rcases oif h with ⟨h270, h⟩ | ⟨h270, h⟩
          · refine Wc.region [{}, {}, {}, {}, {}, { re := some (.bool false) }, {}, {}, {}, {}, {}, {}, { re := some (.bool false) }, {}, {}, {}, {}, {}, {}, { re := some (.bool true) }] [] [2, 3, 33] [2, 3] [] ⟨[(2, (.ptr 2 0, [])), (3, (.ptr 3 0, [])), (33, (.v (.bool true), []))], [(2, .cells [.int .i64 f256_.gKind, .str f256_.gName, .int .i64 f256_.gNum, .sl (List.map GTerm.c f256_.gKids)] []), (3, .cells [.int .i64 f257_.gKind, .str f257_.gName, .int .i64 f257_.gNum, .sl (List.map GTerm.c f257_.gKids)] [])], []⟩ _ (by kernel_rfl) (.cons (congrArg AV.bool h268) (.cons (congrArg AV.bool h269) (.cons (congrArg AV.bool h270) .nil))) ?_
            refine Wc.condT rfl (by kernel_rfl) ?_
            refine Wc.seq ?_
            refine Wc.region [] [] [4] [] [] ⟨[(4, (.v (.bool false), []))], [], []⟩ _ (by kernel_rfl) .nil ?_
            refine Wc.ret ?_
            obtain rfl := Option.some.inj h
            exact ⟨.inl rfl, by kernel_rfl, by kernel_rfl⟩
          · refine Wc.region [{}, {}, {}, {}, {}, { re := some (.bool false) }, {}, {}, {}, {}, {}, {}, { re := some (.bool false) }, {}, {}, {}, {}, {}, {}, { re := some (.bool false) }, {}, {}, { v := some (.int .i64 (f256_.gKids.length : Int)) }, {}, {}, { v := some (.int .i64 (f257_.gKids.length : Int)) }] [] [2, 3, 33] [2, 3] [] ⟨[(2, (.ptr 2 0, [])), (3, (.ptr 3 0, [])), (33, (.v (.bool ((f256_.gKids.length : Int) != (f257_.gKids.length : Int))), []))], [(2, .cells [.int .i64 f256_.gKind, .str f256_.gName, .int .i64 f256_.gNum, .sl (List.map GTerm.c f256_.gKids)] []), (3, .cells [.int .i64 f257_.gKind, .str f257_.gName, .int .i64 f257_.gNum, .sl (List.map GTerm.c f257_.gKids)] [])], []⟩ _ (by kernel_rfl) (.cons (congrArg AV.bool h268) (.cons (congrArg AV.bool h269) (.cons (congrArg AV.bool h270) (.cons (len_obl GTerm.c f256_.gKids) (.cons (len_obl GTerm.c f257_.gKids) .nil))))) ?_
            rcases oif h with ⟨h271, h⟩ | ⟨h271, h⟩
            · refine Wc.condT h271 (by kernel_rfl) ?_
              refine Wc.seq ?_
              refine Wc.region [] [] [4] [] [] ⟨[(4, (.v (.bool false), []))], [], []⟩ _ (by kernel_rfl) .nil ?_
              refine Wc.ret ?_
              obtain rfl := Option.some.inj h
              exact ⟨.inl rfl, by kernel_rfl, by kernel_rfl⟩
            · refine Wc.condF h271 (by kernel_rfl) ?_
              refine Wc.fix (st' := ⟨[(2, (.ptr 2 0, [])), (3, (.ptr 3 0, []))], [(2, .cells [.int .i64 f256_.gKind, .str f256_.gName, .int .i64 f256_.gNum, .sl (List.map GTerm.c f256_.gKids)] []), (3, .cells [.int .i64 f257_.gKind, .str f257_.gName, .int .i64 f257_.gNum, .sl (List.map GTerm.c f257_.gKids)] [])], []⟩) [] [2, 3] [2, 3] [] (by kernel_rfl) ?_
              refine Wc.skip ?_
              refine Wc.seq ?_
              refine Wc.seq ?_
              refine Wc.region [] [] [2, 3, 5] [2, 3] [] ⟨[(2, (.ptr 2 0, [])), (3, (.ptr 3 0, [])), (5, (.v (.int .i64 0), []))], [(2, .cells [.int .i64 f256_.gKind, .str f256_.gName, .int .i64 f256_.gNum, .sl (List.map GTerm.c f256_.gKids)] []), (3, .cells [.int .i64 f257_.gKind, .str f257_.gName, .int .i64 f257_.gNum, .sl (List.map GTerm.c f257_.gKids)] [])], []⟩ _ (by kernel_rfl) .nil ?_
              obtain ⟨out1, h272, h⟩ := obind h
              refine Wc.lastJ (fun st => out1 = .done () ∧ st = ⟨[], [], []⟩) ?_ ?_
              · refine Wc.block ?_
                refine Wc.loop (fun m st => ∃ (b258_ : Int), st = ⟨[(2, (.ptr 2 0, [])), (3, (.ptr 3 0, [])), (5, (.v (.int .i64 b258_), []))], [(2, .cells [.int .i64 f256_.gKind, .str f256_.gName, .int .i64 f256_.gNum, .sl (List.map GTerm.c f256_.gKids)] []), (3, .cells [.int .i64 f257_.gKind, .str f257_.gName, .int .i64 f257_.gNum, .sl (List.map GTerm.c f257_.gKids)] [])], []⟩ ∧ pspec_SameTerm_L1 k (pspec_SameTerm k) f256_ f257_ m b258_ = some out1) ?_ k ⟨_, rfl, h272⟩
                rintro m st ⟨b258_, rfl, h272⟩
                cases m with
                | zero => exact (onone h272).elim
                | succ m =>
                  refine Wc.seq ?_
                  refine Wc.seq ?_
                  refine Wc.region [{}, {}, {}, { v := some (.int .i64 (f256_.gKids.length : Int)) }] [] [2, 3, 5, 38] [2, 3] [] ⟨[(2, (.ptr 2 0, [])), (3, (.ptr 3 0, [])), (5, (.v (.int .i64 b258_), [])), (38, (.v (.bool (decide (b258_ < (f256_.gKids.length : Int)))), []))], [(2, .cells [.int .i64 f256_.gKind, .str f256_.gName, .int .i64 f256_.gNum, .sl (List.map GTerm.c f256_.gKids)] []), (3, .cells [.int .i64 f257_.gKind, .str f257_.gName, .int .i64 f257_.gNum, .sl (List.map GTerm.c f257_.gKids)] [])], []⟩ _ (by kernel_rfl) (.cons (len_obl GTerm.c f256_.gKids) .nil) ?_
                  rcases oif h272 with ⟨h273, h272⟩ | ⟨h273, h272⟩
                  · refine Wc.condT h273 (by kernel_rfl) ?_
                    refine Wc.fix (st' := ⟨[(2, (.ptr 2 0, [])), (3, (.ptr 3 0, [])), (5, (.v (.int .i64 b258_), []))], [(2, .cells [.int .i64 f256_.gKind, .str f256_.gName, .int .i64 f256_.gNum, .sl (List.map GTerm.c f256_.gKids)] []), (3, .cells [.int .i64 f257_.gKind, .str f257_.gName, .int .i64 f257_.gNum, .sl (List.map GTerm.c f257_.gKids)] [])], []⟩) [] [2, 3, 5] [2, 3] [] (by kernel_rfl) ?_
                    refine Wc.skip ?_
                    refine Wc.seq ?_
                    refine Wc.block ?_
                    refine Wc.seq ?_
                    obtain ⟨f259_, h274, h272⟩ := obind h272
                    obtain ⟨f260_, h275, h272⟩ := obind h272
                    obtain ⟨g261_, h276, h272⟩ := obind h272
                    refine Wc.draw hmix [{}, {}, {}, { v := some (.vptr [.int .i64 f259_.gKind, .str f259_.gName, .int .i64 f259_.gNum, .sl (List.map GTerm.c f259_.gKids)]) }, {}, {}, {}, {}, { v := some (.vptr [.int .i64 f260_.gKind, .str f260_.gName, .int .i64 f260_.gNum, .sl (List.map GTerm.c f260_.gKids)]) }, {}, { r := some (.v (.bool g261_) []) }] [] [2, 3, 5, 52] [2, 3] [] ⟨[(2, (.ptr 2 0, [])), (3, (.ptr 3 0, [])), (5, (.v (.int .i64 b258_), [])), (52, (.v (.bool (!g261_)), []))], [(2, .cells [.int .i64 f256_.gKind, .str f256_.gName, .int .i64 f256_.gNum, .sl (List.map GTerm.c f256_.gKids)] []), (3, .cells [.int .i64 f257_.gKind, .str f257_.gName, .int .i64 f257_.gNum, .sl (List.map GTerm.c f257_.gKids)] [])], []⟩ _ (by kernel_rfl) (fun X => by kernel_rfl) (.cons (at_obl (c := GTerm.c) (GTerm.c_eq f259_) GTerm.c_len h274) (.cons (len_ok 4 [.int .i64 f259_.gKind, .str f259_.gName, .int .i64 f259_.gNum, .sl (List.map GTerm.c f259_.gKids)]) (.cons (at_obl (c := GTerm.c) (GTerm.c_eq f260_) GTerm.c_len h275) (.cons (len_ok 4 [.int .i64 f260_.gKind, .str f260_.gName, .int .i64 f260_.gNum, .sl (List.map GTerm.c f260_.gKids)]) (.cons (ih_pspec_SameTerm h276) .nil))))) ?_
                    rcases oif h272 with ⟨h277, h272⟩ | ⟨h277, h272⟩
                    · refine Wc.condT h277 (by kernel_rfl) ?_
                      refine Wc.seq ?_
                      refine Wc.region [] [] [4] [] [] ⟨[(4, (.v (.bool false), []))], [], []⟩ _ (by kernel_rfl) .nil ?_
                      refine Wc.ret ?_
                      obtain rfl := Option.some.inj h272
                      obtain rfl := Option.some.inj h
                      exact ⟨.inl rfl, by kernel_rfl, by kernel_rfl⟩
                    · refine Wc.condF h277 (by kernel_rfl) ?_
                      refine Wc.fix (st' := ⟨[(2, (.ptr 2 0, [])), (3, (.ptr 3 0, [])), (5, (.v (.int .i64 b258_), []))], [(2, .cells [.int .i64 f256_.gKind, .str f256_.gName, .int .i64 f256_.gNum, .sl (List.map GTerm.c f256_.gKids)] []), (3, .cells [.int .i64 f257_.gKind, .str f257_.gName, .int .i64 f257_.gNum, .sl (List.map GTerm.c f257_.gKids)] [])], []⟩) [] [2, 3, 5] [2, 3] [] (by kernel_rfl) ?_
                      refine Wc.skip ?_
                      refine Wc.region [] [] [2, 3, 5] [2, 3] [] ⟨[(2, (.ptr 2 0, [])), (3, (.ptr 3 0, [])), (5, (.v (.int .i64 (wr.i64 (b258_ + 1))), []))], [(2, .cells [.int .i64 f256_.gKind, .str f256_.gName, .int .i64 f256_.gNum, .sl (List.map GTerm.c f256_.gKids)] []), (3, .cells [.int .i64 f257_.gKind, .str f257_.gName, .int .i64 f257_.gNum, .sl (List.map GTerm.c f257_.gKids)] [])], []⟩ _ (by kernel_rfl) .nil ?_
                      exact ⟨_, Nat.lt_succ_self _, _, rfl, h272⟩
                  · refine Wc.condF h273 (by kernel_rfl) ?_
                    refine Wc.fix (st' := ⟨[], [], []⟩) [] [] [] [] (by kernel_rfl) ?_
                    refine Wc.exit ?_
                    obtain rfl := Option.some.inj h272
                    exact ⟨rfl, rfl⟩
              · rintro st ⟨rfl, rfl⟩
                refine Wc.seq ?_
                refine Wc.region [] [] [4] [] [] ⟨[(4, (.v (.bool true), []))], [], []⟩ _ (by kernel_rfl) .nil ?_
                refine Wc.ret ?_
                obtain rfl := Option.some.inj h
                exact ⟨.inl rfl, by kernel_rfl, by kernel_rfl⟩
theorem cspec_SameTerm {k : Nat} {f256_ : GTerm} {f257_ : GTerm} {r : Bool} (h : pspec_SameTerm k f256_ f257_ = some r) : FnO Try.prog 25 [.v (.agg [.int .i64 f256_.gKind, .str f256_.gName, .int .i64 f256_.gNum, .sl (List.map GTerm.c f256_.gKids)]) [], .v (.agg [.int .i64 f257_.gKind, .str f257_.gName, .int .i64 f257_.gNum, .sl (List.map GTerm.c f257_.gKids)]) []] (.v (.bool r) []) [] := (all_pspec_SameTerm k) h

def pspec_l21Make_L1 (k : Nat) (m269_ : List GTerm) : Nat → Int → GTerm → Option (Out GTerm GTerm)
  | 0, _, _ => none
  | m + 1, b271_, f272_ =>
    if (decide (b271_ ≥ 0)) = true then
      (at' m269_ b271_).bind fun f274_ =>
      (pspec_l03Two k (bs [46]) f274_ f272_).bind fun f275_ =>
      pspec_l21Make_L1 k m269_ m (wr.i64 (b271_ - 1)) f275_
    else
      some (.done f272_)
/-- spec.l21Make -/
def pspec_l21Make (k : Nat) (m269_ : List GTerm) : Option GTerm :=
  (pspec_l03Atom k (bs [91, 93])).bind fun f270_ =>
  (pspec_l21Make_L1 k m269_ k (wr.i64 ((m269_.length : Int) - 1)) f270_).bind fun out1 => match out1 with
  | .ret r => some r
  | .done f273_ =>
    some f273_
theorem cspec_l21Make {k : Nat} {m269_ : List GTerm} {r : GTerm} (h : pspec_l21Make k m269_ = some r) : FnO Try.prog 133 [.v (.sl (List.map GTerm.c m269_)) []] (.v (.agg [.int .i64 r.gKind, .str r.gName, .int .i64 r.gNum, .sl (List.map GTerm.c r.gKids)]) [(3, .app 41)]) [] := by
  refine FnO.of Try.func133 (rfl : Try.f133.body = some _) (Nat.le_of_ble_eq_true (by kernel_rfl)) (Nat.le_of_ble_eq_true (by kernel_rfl)) ?_
  intro w0 X0 Fin pv0 pb
  unfold pspec_l21Make at h
  refine Wc.seq ?_
  refine Wc.region [] [] [0, 2] [2] [] ⟨[(0, (.v (.sl (List.map GTerm.c m269_)), [])), (2, (.ptr 2 0, []))], [(2, .cells [.int .i64 0, .str (bs []), .int .i64 0, .sl (List.map GTerm.c [])] [(3, .app 41)])], []⟩ _ (by kernel_rfl) .nil ?_
  refine Wc.seq ?_
  obtain ⟨f270_, h283, h⟩ := obind h
  refine Wc.region [{ r := some (.v (.agg [.int .i64 f270_.gKind, .str f270_.gName, .int .i64 f270_.gNum, .sl (List.map GTerm.c f270_.gKids)]) [(3, .app 41)]) }, {}, { tk := [5] }] [] [0, 2, 3] [2, 3] [] ⟨[(0, (.v (.sl (List.map GTerm.c m269_)), [])), (2, (.ptr 2 0, [])), (3, (.ptr 3 0, []))], [(2, .cells [.int .i64 0, .str (bs []), .int .i64 0, .sl (List.map GTerm.c [])] [(3, .app 41)]), (3, .cells [.int .i64 f270_.gKind, .str f270_.gName, .int .i64 f270_.gNum, .sl (List.map GTerm.c f270_.gKids)] [(3, .app 41)])], []⟩ _ (by kernel_rfl) (.cons (cspec_l03Atom h283) .nil) ?_
  refine Wc.seq ?_
  refine Wc.seq ?_
  refine Wc.region [{}, { v := some (.int .i64 (m269_.length : Int)) }] [] [0, 2, 3, 4] [2, 3] [] ⟨[(0, (.v (.sl (List.map GTerm.c m269_)), [])), (2, (.ptr 2 0, [])), (3, (.ptr 3 0, [])), (4, (.v (.int .i64 (wr.i64 ((m269_.length : Int) - 1))), []))], [(2, .cells [.int .i64 0, .str (bs []), .int .i64 0, .sl (List.map GTerm.c [])] [(3, .app 41)]), (3, .cells [.int .i64 f270_.gKind, .str f270_.gName, .int .i64 f270_.gNum, .sl (List.map GTerm.c f270_.gKids)] [(3, .app 41)])], []⟩ _ (by kernel_rfl) (.cons (len_obl GTerm.c m269_) .nil) ?_
  obtain ⟨out1, h284, h⟩ := obind h
  refine Wc.lastJ (fun st => ∃ (f273_ : GTerm), out1 = .done f273_ ∧ st = ⟨[(2, (.ptr 2 0, [])), (3, (.ptr 3 0, []))], [(2, .cells [.int .i64 0, .str (bs []), .int .i64 0, .sl (List.map GTerm.c [])] [(3, .app 41)]), (3, .cells [.int .i64 f273_.gKind, .str f273_.gName, .int .i64 f273_.gNum, .sl (List.map GTerm.c f273_.gKids)] [(3, .app 41)])], []⟩) ?_ ?_
  · refine Wc.block ?_
    refine Wc.loop (fun m st => ∃ (b271_ : Int) (f272_ : GTerm), st = ⟨[(0, (.v (.sl (List.map GTerm.c m269_)), [])), (2, (.ptr 2 0, [])), (3, (.ptr 3 0, [])), (4, (.v (.int .i64 b271_), []))], [(2, .cells [.int .i64 0, .str (bs []), .int .i64 0, .sl (List.map GTerm.c [])] [(3, .app 41)]), (3, .cells [.int .i64 f272_.gKind, .str f272_.gName, .int .i64 f272_.gNum, .sl (List.map GTerm.c f272_.gKids)] [(3, .app 41)])], []⟩ ∧ pspec_l21Make_L1 k m269_ m b271_ f272_ = some out1) ?_ k ⟨_, _, rfl, h284⟩
    rintro m st ⟨b271_, f272_, rfl, h284⟩
    cases m with
    | zero => exact (onone h284).elim
    | succ m =>
      refine Wc.seq ?_
      refine Wc.seq ?_
      refine Wc.region [] [] [0, 2, 3, 4, 10] [2, 3] [] ⟨[(0, (.v (.sl (List.map GTerm.c m269_)), [])), (2, (.ptr 2 0, [])), (3, (.ptr 3 0, [])), (4, (.v (.int .i64 b271_), [])), (10, (.v (.bool (decide (b271_ ≥ 0))), []))], [(2, .cells [.int .i64 0, .str (bs []), .int .i64 0, .sl (List.map GTerm.c [])] [(3, .app 41)]), (3, .cells [.int .i64 f272_.gKind, .str f272_.gName, .int .i64 f272_.gNum, .sl (List.map GTerm.c f272_.gKids)] [(3, .app 41)])], []⟩ _ (by kernel_rfl) .nil ?_
      rcases oif h284 with ⟨h285, h284⟩ | ⟨h285, h284⟩
      · refine Wc.condT h285 (by kernel_rfl) ?_
        refine Wc.fix (st' := ⟨[(0, (.v (.sl (List.map GTerm.c m269_)), [])), (2, (.ptr 2 0, [])), (3, (.ptr 3 0, [])), (4, (.v (.int .i64 b271_), []))], [(2, .cells [.int .i64 0, .str (bs []), .int .i64 0, .sl (List.map GTerm.c [])] [(3, .app 41)]), (3, .cells [.int .i64 f272_.gKind, .str f272_.gName, .int .i64 f272_.gNum, .sl (List.map GTerm.c f272_.gKids)] [(3, .app 41)])], []⟩) [] [0, 2, 3, 4] [2, 3] [] (by kernel_rfl) ?_
        refine Wc.skip ?_
        refine Wc.seq ?_
        refine Wc.block ?_
        obtain ⟨f274_, h286, h284⟩ := obind h284
        obtain ⟨f275_, h287, h284⟩ := obind h284
        refine Wc.draw hmix [{}, {}, { v := some (.vptr [.int .i64 f274_.gKind, .str f274_.gName, .int .i64 f274_.gNum, .sl (List.map GTerm.c f274_.gKids)]) }, {}, {}, { r := some (.v (.agg [.int .i64 f275_.gKind, .str f275_.gName, .int .i64 f275_.gNum, .sl (List.map GTerm.c f275_.gKids)]) [(3, .app 41)]) }, { tk := [18] }] [] [0, 2, 3, 4] [2, 3] [] ⟨[(0, (.v (.sl (List.map GTerm.c m269_)), [])), (2, (.ptr 2 0, [])), (3, (.ptr 3 0, [])), (4, (.v (.int .i64 b271_), []))], [(2, .cells [.int .i64 0, .str (bs []), .int .i64 0, .sl (List.map GTerm.c [])] [(3, .app 41)]), (3, .cells [.int .i64 f275_.gKind, .str f275_.gName, .int .i64 f275_.gNum, .sl (List.map GTerm.c f275_.gKids)] [(3, .app 41)])], []⟩ _ (by kernel_rfl) (fun X => by kernel_rfl) (.cons (at_obl (c := GTerm.c) (GTerm.c_eq f274_) GTerm.c_len h286) (.cons (len_ok 4 [.int .i64 f274_.gKind, .str f274_.gName, .int .i64 f274_.gNum, .sl (List.map GTerm.c f274_.gKids)]) (.cons (cspec_l03Two h287) .nil))) ?_
        refine Wc.region [] [] [0, 2, 3, 4] [2, 3] [] ⟨[(0, (.v (.sl (List.map GTerm.c m269_)), [])), (2, (.ptr 2 0, [])), (3, (.ptr 3 0, [])), (4, (.v (.int .i64 (wr.i64 (b271_ - 1))), []))], [(2, .cells [.int .i64 0, .str (bs []), .int .i64 0, .sl (List.map GTerm.c [])] [(3, .app 41)]), (3, .cells [.int .i64 f275_.gKind, .str f275_.gName, .int .i64 f275_.gNum, .sl (List.map GTerm.c f275_.gKids)] [(3, .app 41)])], []⟩ _ (by kernel_rfl) .nil ?_
        exact ⟨_, Nat.lt_succ_self _, _, _, rfl, h284⟩
      · refine Wc.condF h285 (by kernel_rfl) ?_
        refine Wc.fix (st' := ⟨[(2, (.ptr 2 0, [])), (3, (.ptr 3 0, []))], [(2, .cells [.int .i64 0, .str (bs []), .int .i64 0, .sl (List.map GTerm.c [])] [(3, .app 41)]), (3, .cells [.int .i64 f272_.gKind, .str f272_.gName, .int .i64 f272_.gNum, .sl (List.map GTerm.c f272_.gKids)] [(3, .app 41)])], []⟩) [] [2, 3] [2, 3] [] (by kernel_rfl) ?_
        refine Wc.exit ?_
        obtain rfl := Option.some.inj h284
        exact ⟨_, rfl, rfl⟩
  · rintro st ⟨f273_, rfl, rfl⟩
    refine Wc.seq ?_
    refine Wc.region [{ md := 1 }, { tk := [19] }] [] [2] [2] [] ⟨[(2, (.ptr 2 0, []))], [(2, .cells [.int .i64 f273_.gKind, .str f273_.gName, .int .i64 f273_.gNum, .sl (List.map GTerm.c f273_.gKids)] [(3, .app 41)])], []⟩ _ (by kernel_rfl) .nil ?_
    refine Wc.ret ?_
    obtain rfl := Option.some.inj h
    exact ⟨.inl rfl, by kernel_rfl, by kernel_rfl⟩

/-- spec.l21ListTermRaw -/
def pspec_l21ListTermRaw (k : Nat) (m281_ : List GTerm) : Option GTerm :=
  if (decide ((m281_.length : Int) > 400)) = true then
    (pspec_l03Atom k (bs [91, 93])).bind fun f282_ =>
    some f282_
  else
    (pspec_l21Make k m281_).bind fun f283_ =>
    (pspec_TermOk k f283_).bind fun g284_ =>
    if (!g284_) = true then
      (pspec_l03Atom k (bs [91, 93])).bind fun f285_ =>
      some f285_
    else
      some f283_
theorem cspec_l21ListTermRaw {k : Nat} {m281_ : List GTerm} {r : GTerm} (h : pspec_l21ListTermRaw k m281_ = some r) : FnO Try.prog 78 [.v (.sl (List.map GTerm.c m281_)) []] (.v (.agg [.int .i64 r.gKind, .str r.gName, .int .i64 r.gNum, .sl (List.map GTerm.c r.gKids)]) [(3, .app 41)]) [] := by
  refine FnO.of Try.func78 (rfl : Try.f78.body = some _) (Nat.le_of_ble_eq_true (by kernel_rfl)) (Nat.le_of_ble_eq_true (by kernel_rfl)) ?_
  intro w0 X0 Fin pv0 pb
  unfold pspec_l21ListTermRaw at h
  refine Wc.seq ?_
  refine Wc.region [] [] [0, 2] [2] [] ⟨[(0, (.v (.sl (List.map GTerm.c m281_)), [])), (2, (.ptr 2 0, []))], [(2, .cells [.int .i64 0, .str (bs []), .int .i64 0, .sl (List.map GTerm.c [])] [(3, .app 41)])], []⟩ _ (by kernel_rfl) .nil ?_
  refine Wc.seq ?_
  refine Wc.seq ?_
  refine Wc.region [{}, { v := some (.int .i64 (m281_.length : Int)) }] [] [0, 2, 6] [2] [] ⟨[(0, (.v (.sl (List.map GTerm.c m281_)), [])), (2, (.ptr 2 0, [])), (6, (.v (.bool (decide ((m281_.length : Int) > 400))), []))], [(2, .cells [.int .i64 0, .str (bs []), .int .i64 0, .sl (List.map GTerm.c [])] [(3, .app 41)])], []⟩ _ (by kernel_rfl) (.cons (len_obl GTerm.c m281_) .nil) ?_
  rcases oif h with ⟨h294, h⟩ | ⟨h294, h⟩
  · refine Wc.condT h294 (by kernel_rfl) ?_
    refine Wc.seq ?_
    obtain ⟨f282_, h295, h⟩ := obind h
    refine Wc.region [{ r := some (.v (.agg [.int .i64 f282_.gKind, .str f282_.gName, .int .i64 f282_.gNum, .sl (List.map GTerm.c f282_.gKids)]) [(3, .app 41)]) }, { tk := [7] }] [] [2] [2] [] ⟨[(2, (.ptr 2 0, []))], [(2, .cells [.int .i64 f282_.gKind, .str f282_.gName, .int .i64 f282_.gNum, .sl (List.map GTerm.c f282_.gKids)] [(3, .app 41)])], []⟩ _ (by kernel_rfl) (.cons (cspec_l03Atom h295) .nil) ?_
    refine Wc.ret ?_
    obtain rfl := Option.some.inj h
    exact ⟨.inl rfl, by kernel_rfl, by kernel_rfl⟩
  · refine Wc.condF h294 (by kernel_rfl) ?_
    refine Wc.fix (st' := ⟨[(0, (.v (.sl (List.map GTerm.c m281_)), [])), (2, (.ptr 2 0, []))], [(2, .cells [.int .i64 0, .str (bs []), .int .i64 0, .sl (List.map GTerm.c [])] [(3, .app 41)])], []⟩) [] [0, 2] [2] [] (by kernel_rfl) ?_
    refine Wc.skip ?_
    refine Wc.seq ?_
    obtain ⟨f283_, h296, h⟩ := obind h
    refine Wc.region [{}, { r := some (.v (.agg [.int .i64 f283_.gKind, .str f283_.gName, .int .i64 f283_.gNum, .sl (List.map GTerm.c f283_.gKids)]) [(3, .app 41)]) }, {}, { tk := [9] }] [] [2, 3] [2, 3] [] ⟨[(2, (.ptr 2 0, [])), (3, (.ptr 3 0, []))], [(2, .cells [.int .i64 0, .str (bs []), .int .i64 0, .sl (List.map GTerm.c [])] [(3, .app 41)]), (3, .cells [.int .i64 f283_.gKind, .str f283_.gName, .int .i64 f283_.gNum, .sl (List.map GTerm.c f283_.gKids)] [(3, .app 41)])], []⟩ _ (by kernel_rfl) (.cons (cspec_l21Make h296) .nil) ?_
    refine Wc.seq ?_
    refine Wc.seq ?_
    obtain ⟨g284_, h297, h⟩ := obind h
    refine Wc.region [{}, { r := some (.v (.bool g284_) []) }] [] [2, 3, 12] [2, 3] [] ⟨[(2, (.ptr 2 0, [])), (3, (.ptr 3 0, [])), (12, (.v (.bool (!g284_)), []))], [(2, .cells [.int .i64 0, .str (bs []), .int .i64 0, .sl (List.map GTerm.c [])] [(3, .app 41)]), (3, .cells [.int .i64 f283_.gKind, .str f283_.gName, .int .i64 f283_.gNum, .sl (List.map GTerm.c f283_.gKids)] [(3, .app 41)])], []⟩ _ (by kernel_rfl) (.cons (cspec_TermOk h297) .nil) ?_
    rcases oif h with ⟨h298, h⟩ | ⟨h298, h⟩
    · refine Wc.condT h298 (by kernel_rfl) ?_
      refine Wc.seq ?_
      obtain ⟨f285_, h299, h⟩ := obind h
      refine Wc.region [{ r := some (.v (.agg [.int .i64 f285_.gKind, .str f285_.gName, .int .i64 f285_.gNum, .sl (List.map GTerm.c f285_.gKids)]) [(3, .app 41)]) }, { tk := [13] }] [] [2] [2] [] ⟨[(2, (.ptr 2 0, []))], [(2, .cells [.int .i64 f285_.gKind, .str f285_.gName, .int .i64 f285_.gNum, .sl (List.map GTerm.c f285_.gKids)] [(3, .app 41)])], []⟩ _ (by kernel_rfl) (.cons (cspec_l03Atom h299) .nil) ?_
      refine Wc.ret ?_
      obtain rfl := Option.some.inj h
      exact ⟨.inl rfl, by kernel_rfl, by kernel_rfl⟩
    · refine Wc.condF h298 (by kernel_rfl) ?_
      refine Wc.fix (st' := ⟨[(2, (.ptr 2 0, [])), (3, (.ptr 3 0, []))], [(2, .cells [.int .i64 0, .str (bs []), .int .i64 0, .sl (List.map GTerm.c [])] [(3, .app 41)]), (3, .cells [.int .i64 f283_.gKind, .str f283_.gName, .int .i64 f283_.gNum, .sl (List.map GTerm.c f283_.gKids)] [(3, .app 41)])], []⟩) [] [2, 3] [2, 3] [] (by kernel_rfl) ?_
      refine Wc.skip ?_
      refine Wc.seq ?_
      refine Wc.region [{ md := 1 }, { tk := [14] }] [] [2] [2] [] ⟨[(2, (.ptr 2 0, []))], [(2, .cells [.int .i64 f283_.gKind, .str f283_.gName, .int .i64 f283_.gNum, .sl (List.map GTerm.c f283_.gKids)] [(3, .app 41)])], []⟩ _ (by kernel_rfl) .nil ?_
      refine Wc.ret ?_
      obtain rfl := Option.some.inj h
      exact ⟨.inl rfl, by kernel_rfl, by kernel_rfl⟩

def pspec_l34Terms_L1 (k : Nat) (rspec_l34Term : GTerm → Option GTerm) (rspec_l34Terms : (List GTerm) → Option (List GTerm)) (m304_ : List GTerm) : Nat → (List GTerm) → Int → Option (Out (List GTerm) (List GTerm))
  | 0, _, _ => none
  | m + 1, m305_, b306_ =>
    if (decide (b306_ < (m304_.length : Int))) = true then
      (at' m304_ b306_).bind fun f308_ =>
      (rspec_l34Term f308_).bind fun f309_ =>
      if m305_.length + [f309_].length ≤ 1073741824 then
        pspec_l34Terms_L1 k rspec_l34Term rspec_l34Terms m304_ m (m305_ ++ [f309_]) (wr.i64 (b306_ + 1))
      else none
    else
      some (.done m305_)
mutual
/-- spec.l34Term -/
def pspec_l34Term : Nat → GTerm → Option GTerm
  | 0, _ => none
  | k + 1, f302_ =>
    (pspec_l34Terms k f302_.gKids).bind fun q303_ =>
    some (GTerm.mk f302_.gKind f302_.gName f302_.gNum q303_)
/-- spec.l34Terms -/
def pspec_l34Terms : Nat → (List GTerm) → Option (List GTerm)
  | 0, _ => none
  | k + 1, m304_ =>
    (pspec_l34Terms_L1 k (pspec_l34Term k) (pspec_l34Terms k) m304_ k [] 0).bind fun out1 => match out1 with
    | .ret r => some r
    | .done m307_ =>
      some m307_
end
theorem all_pspec_l34Term : ∀ k : Nat, (∀ {f302_ : GTerm} {r : GTerm}, pspec_l34Term k f302_ = some r → FnO Try.prog 79 [.v (.agg [.int .i64 f302_.gKind, .str f302_.gName, .int .i64 f302_.gNum, .sl (List.map GTerm.c f302_.gKids)]) []] (.v (.agg [.int .i64 r.gKind, .str r.gName, .int .i64 r.gNum, .sl (List.map GTerm.c r.gKids)]) [(3, .app 41)]) []) ∧
    (∀ {m304_ : List GTerm} {r : (List GTerm)}, pspec_l34Terms k m304_ = some r → FnO Try.prog 134 [.v (.sl (List.map GTerm.c m304_)) []] (.v (.sl (List.map GTerm.c r)) [(0, .app 41)]) []) := by
  intro k
  induction k with
  | zero =>
    refine ⟨?_, ?_⟩
    · intro f302_ r h
      exact (onone (by rw [pspec_l34Term] at h; exact h)).elim
    · intro m304_ r h
      exact (onone (by rw [pspec_l34Terms] at h; exact h)).elim
  | succ k ih =>
    obtain ⟨ih_pspec_l34Term, ih_pspec_l34Terms⟩ := ih
    refine ⟨?_, ?_⟩
    · intro f302_ r h
      rw [pspec_l34Term] at h
      refine FnO.of Try.func79 (rfl : Try.f79.body = some _) (Nat.le_of_ble_eq_true (by kernel_rfl)) (Nat.le_of_ble_eq_true (by kernel_rfl)) ?_
      intro w0 X0 Fin pv0 pb
      refine Wc.seq ?_
      refine Wc.region [] [] [1, 2] [1, 2] [] ⟨[(1, (.ptr 1 0, [])), (2, (.ptr 2 0, []))], [(1, .cells [.int .i64 f302_.gKind, .str f302_.gName, .int .i64 f302_.gNum, .sl (List.map GTerm.c f302_.gKids)] []), (2, .cells [.int .i64 0, .str (bs []), .int .i64 0, .sl (List.map GTerm.c [])] [(3, .app 41)])], []⟩ _ (by kernel_rfl) .nil ?_
      refine Wc.seq ?_
      obtain ⟨q303_, h312, h⟩ := obind h
      refine Wc.region [{}, {}, { r := some (.v (.sl (List.map GTerm.c q303_)) [(0, .app 41)]) }, {}, { tk := [5] }] [] [1, 2] [1, 2] [] ⟨[(1, (.ptr 1 0, [])), (2, (.ptr 2 0, []))], [(1, .cells [.int .i64 f302_.gKind, .str f302_.gName, .int .i64 f302_.gNum, .sl (List.map GTerm.c q303_)] [(3, .app 41)]), (2, .cells [.int .i64 0, .str (bs []), .int .i64 0, .sl (List.map GTerm.c [])] [(3, .app 41)])], []⟩ _ (by kernel_rfl) (.cons (ih_pspec_l34Terms h312) .nil) ?_
      refine Wc.seq ?_
      refine Wc.region [{ md := 1 }, { tk := [7] }] [] [2] [2] [] ⟨[(2, (.ptr 2 0, []))], [(2, .cells [.int .i64 f302_.gKind, .str f302_.gName, .int .i64 f302_.gNum, .sl (List.map GTerm.c q303_)] [(3, .app 41)])], []⟩ _ (by kernel_rfl) .nil ?_
      refine Wc.ret ?_
      obtain rfl := Option.some.inj h
      exact ⟨.inl rfl, by kernel_rfl, by kernel_rfl⟩
    · intro m304_ r h
      rw [pspec_l34Terms] at h
      refine FnO.of Try.func134 (rfl : Try.f134.body = some _) (Nat.le_of_ble_eq_true (by kernel_rfl)) (Nat.le_of_ble_eq_true (by kernel_rfl)) ?_
      intro w0 X0 Fin pv0 pb
      refine Wc.seq ?_
      refine Wc.region [] [] [0] [] [] ⟨[(0, (.v (.sl (List.map GTerm.c m304_)), []))], [], []⟩ _ (by kernel_rfl) .nil ?_
      refine Wc.seq ?_
      refine Wc.region [{ c := some (List.map GTerm.c []) }, { tk := [5] }] [] [0, 3] [] [] ⟨[(0, (.v (.sl (List.map GTerm.c m304_)), [])), (3, (.v (.sl (List.map GTerm.c [])), [(0, .app 41)]))], [], []⟩ _ (by kernel_rfl) (.cons (cl_nil GTerm.c) .nil) ?_
      refine Wc.seq ?_
      refine Wc.seq ?_
      refine Wc.region [] [] [0, 3, 4] [] [] ⟨[(0, (.v (.sl (List.map GTerm.c m304_)), [])), (3, (.v (.sl (List.map GTerm.c [])), [(0, .app 41)])), (4, (.v (.int .i64 0), []))], [], []⟩ _ (by kernel_rfl) .nil ?_
      obtain ⟨out1, h313, h⟩ := obind h
      refine Wc.lastJ (fun st => ∃ (m307_ : List GTerm), out1 = .done m307_ ∧ st = ⟨[(3, (.v (.sl (List.map GTerm.c m307_)), [(0, .app 41)]))], [], []⟩) ?_ ?_
      · refine Wc.block ?_
        refine Wc.loop (fun m st => ∃ (m305_ : List GTerm) (b306_ : Int), st = ⟨[(0, (.v (.sl (List.map GTerm.c m304_)), [])), (3, (.v (.sl (List.map GTerm.c m305_)), [(0, .app 41)])), (4, (.v (.int .i64 b306_), []))], [], []⟩ ∧ pspec_l34Terms_L1 k (pspec_l34Term k) (pspec_l34Terms k) m304_ m m305_ b306_ = some out1) ?_ k ⟨_, _, rfl, h313⟩
        rintro m st ⟨m305_, b306_, rfl, h313⟩
        cases m with
        | zero => exact (onone h313).elim
        | succ m =>
          refine Wc.seq ?_
          refine Wc.seq ?_
          refine Wc.region [{}, {}, { v := some (.int .i64 (m304_.length : Int)) }] [] [0, 3, 4, 9] [] [] ⟨[(0, (.v (.sl (List.map GTerm.c m304_)), [])), (3, (.v (.sl (List.map GTerm.c m305_)), [(0, .app 41)])), (4, (.v (.int .i64 b306_), [])), (9, (.v (.bool (decide (b306_ < (m304_.length : Int)))), []))], [], []⟩ _ (by kernel_rfl) (.cons (len_obl GTerm.c m304_) .nil) ?_
          rcases oif h313 with ⟨h314, h313⟩ | ⟨h314, h313⟩
          · refine Wc.condT h314 (by kernel_rfl) ?_
            refine Wc.fix (st' := ⟨[(0, (.v (.sl (List.map GTerm.c m304_)), [])), (3, (.v (.sl (List.map GTerm.c m305_)), [(0, .app 41)])), (4, (.v (.int .i64 b306_), []))], [], []⟩) [] [0, 3, 4] [] [] (by kernel_rfl) ?_
            refine Wc.skip ?_
            refine Wc.seq ?_
            refine Wc.block ?_
            obtain ⟨f308_, h315, h313⟩ := obind h313
            obtain ⟨f309_, h316, h313⟩ := obind h313
            obtain ⟨h317, h313⟩ := oguard h313
            refine Wc.region [{ tk := [3] }, {}, {}, { v := some (.vptr [.int .i64 f308_.gKind, .str f308_.gName, .int .i64 f308_.gNum, .sl (List.map GTerm.c f308_.gKids)]) }, {}, { r := some (.v (.agg [.int .i64 f309_.gKind, .str f309_.gName, .int .i64 f309_.gNum, .sl (List.map GTerm.c f309_.gKids)]) [(3, .app 41)]) }, { c := some (List.map GTerm.c [f309_]) }, { c := some (List.map GTerm.c (m305_ ++ [f309_])), tk := [12] }, { tk := [19] }] [] [0, 3, 4] [] [] ⟨[(0, (.v (.sl (List.map GTerm.c m304_)), [])), (3, (.v (.sl (List.map GTerm.c (m305_ ++ [f309_]))), [(0, .app 41)])), (4, (.v (.int .i64 b306_), []))], [], []⟩ _ (by kernel_rfl) (.cons (at_obl (c := GTerm.c) (GTerm.c_eq f308_) GTerm.c_len h315) (.cons (len_ok 4 [.int .i64 f308_.gKind, .str f308_.gName, .int .i64 f308_.gNum, .sl (List.map GTerm.c f308_.gKids)]) (.cons (ih_pspec_l34Term h316) (.cons (cl_cons (c := GTerm.c) (x := f309_) (GTerm.c_eq f309_) (cl_nil GTerm.c)) (.cons (app_re2 GTerm.c m305_ [f309_]) (.cons (app_leaf (c := GTerm.c) (ys := [f309_]) GTerm.c_leaf) (.cons (app_obl2 (c := GTerm.c) (xs := m305_) (ys := [f309_]) GTerm.c_len h317) .nil))))))) ?_
            refine Wc.region [] [] [0, 3, 4] [] [] ⟨[(0, (.v (.sl (List.map GTerm.c m304_)), [])), (3, (.v (.sl (List.map GTerm.c (m305_ ++ [f309_]))), [(0, .app 41)])), (4, (.v (.int .i64 (wr.i64 (b306_ + 1))), []))], [], []⟩ _ (by kernel_rfl) .nil ?_
            exact ⟨_, Nat.lt_succ_self _, _, _, rfl, h313⟩
          · refine Wc.condF h314 (by kernel_rfl) ?_
            refine Wc.fix (st' := ⟨[(3, (.v (.sl (List.map GTerm.c m305_)), [(0, .app 41)]))], [], []⟩) [] [3] [] [] (by kernel_rfl) ?_
            refine Wc.exit ?_
            obtain rfl := Option.some.inj h313
            exact ⟨_, rfl, rfl⟩
      · rintro st ⟨m307_, rfl, rfl⟩
        refine Wc.seq ?_
        refine Wc.region [{ tk := [3] }, { tk := [20] }] [] [2] [] [] ⟨[(2, (.v (.sl (List.map GTerm.c m307_)), [(0, .app 41)]))], [], []⟩ _ (by kernel_rfl) .nil ?_
        refine Wc.ret ?_
        obtain rfl := Option.some.inj h
        exact ⟨.inl rfl, by kernel_rfl, by kernel_rfl⟩
theorem cspec_l34Term {k : Nat} {f302_ : GTerm} {r : GTerm} (h : pspec_l34Term k f302_ = some r) : FnO Try.prog 79 [.v (.agg [.int .i64 f302_.gKind, .str f302_.gName, .int .i64 f302_.gNum, .sl (List.map GTerm.c f302_.gKids)]) []] (.v (.agg [.int .i64 r.gKind, .str r.gName, .int .i64 r.gNum, .sl (List.map GTerm.c r.gKids)]) [(3, .app 41)]) [] := (all_pspec_l34Term k).1 h
theorem cspec_l34Terms {k : Nat} {m304_ : List GTerm} {r : (List GTerm)} (h : pspec_l34Terms k m304_ = some r) : FnO Try.prog 134 [.v (.sl (List.map GTerm.c m304_)) []] (.v (.sl (List.map GTerm.c r)) [(0, .app 41)]) [] := (all_pspec_l34Term k).2 h

/-- spec.ListTerm -/
def pspec_ListTerm (k : Nat) (m313_ : List GTerm) : Option GTerm :=
  (pspec_l21ListTermRaw k m313_).bind fun f314_ =>
  (pspec_l34Term k f314_).bind fun f315_ =>
  some f315_
theorem cspec_ListTerm {k : Nat} {m313_ : List GTerm} {r : GTerm} (h : pspec_ListTerm k m313_ = some r) : FnO Try.prog 26 [.v (.sl (List.map GTerm.c m313_)) []] (.v (.agg [.int .i64 r.gKind, .str r.gName, .int .i64 r.gNum, .sl (List.map GTerm.c r.gKids)]) [(3, .app 41)]) [] := by
  refine FnO.of Try.func26 (rfl : Try.f26.body = some _) (Nat.le_of_ble_eq_true (by kernel_rfl)) (Nat.le_of_ble_eq_true (by kernel_rfl)) ?_
  intro w0 X0 Fin pv0 pb
  unfold pspec_ListTerm at h
  refine Wc.seq ?_
  refine Wc.region [] [] [0, 2] [2] [] ⟨[(0, (.v (.sl (List.map GTerm.c m313_)), [])), (2, (.ptr 2 0, []))], [(2, .cells [.int .i64 0, .str (bs []), .int .i64 0, .sl (List.map GTerm.c [])] [(3, .app 41)])], []⟩ _ (by kernel_rfl) .nil ?_
  refine Wc.seq ?_
  obtain ⟨f314_, h320, h⟩ := obind h
  refine Wc.region [{}, { r := some (.v (.agg [.int .i64 f314_.gKind, .str f314_.gName, .int .i64 f314_.gNum, .sl (List.map GTerm.c f314_.gKids)]) [(3, .app 41)]) }, {}, { tk := [5] }] [] [2, 3] [2, 3] [] ⟨[(2, (.ptr 2 0, [])), (3, (.ptr 3 0, []))], [(2, .cells [.int .i64 0, .str (bs []), .int .i64 0, .sl (List.map GTerm.c [])] [(3, .app 41)]), (3, .cells [.int .i64 f314_.gKind, .str f314_.gName, .int .i64 f314_.gNum, .sl (List.map GTerm.c f314_.gKids)] [(3, .app 41)])], []⟩ _ (by kernel_rfl) (.cons (cspec_l21ListTermRaw h320) .nil) ?_
  refine Wc.seq ?_
  obtain ⟨f315_, h321, h⟩ := obind h
  refine Wc.region [{}, { r := some (.v (.agg [.int .i64 f315_.gKind, .str f315_.gName, .int .i64 f315_.gNum, .sl (List.map GTerm.c f315_.gKids)]) [(3, .app 41)]) }, { tk := [7] }] [] [2] [2] [] ⟨[(2, (.ptr 2 0, []))], [(2, .cells [.int .i64 f315_.gKind, .str f315_.gName, .int .i64 f315_.gNum, .sl (List.map GTerm.c f315_.gKids)] [(3, .app 41)])], []⟩ _ (by kernel_rfl) (.cons (cspec_l34Term h321) .nil) ?_
  refine Wc.ret ?_
  obtain rfl := Option.some.inj h
  exact ⟨.inl rfl, by kernel_rfl, by kernel_rfl⟩

def plaws_sameTerms_L1 (k : Nat) (m316_ : List GTerm) (m317_ : List GTerm) : Nat → Int → Option (Out Bool Unit)
  | 0, _ => none
  | m + 1, b318_ =>
    if (decide (b318_ < (m316_.length : Int))) = true then
      (at' m316_ b318_).bind fun f319_ =>
      (at' m317_ b318_).bind fun f320_ =>
      (pspec_SameTerm k f319_ f320_).bind fun g321_ =>
      if (!g321_) = true then
        some (.ret false)
      else
        plaws_sameTerms_L1 k m316_ m317_ m (wr.i64 (b318_ + 1))
    else
      some (.done ())
/-- laws.sameTerms -/
def plaws_sameTerms (k : Nat) (m316_ : List GTerm) (m317_ : List GTerm) : Option Bool :=
  if ((m316_.length : Int) != (m317_.length : Int)) = true then
    some false
  else
    (plaws_sameTerms_L1 k m316_ m317_ k 0).bind fun out1 => match out1 with
    | .ret r => some r
    | .done () =>
      some true
theorem claws_sameTerms {k : Nat} {m316_ : List GTerm} {m317_ : List GTerm} {r : Bool} (h : plaws_sameTerms k m316_ m317_ = some r) : FnO Try.prog 27 [.v (.sl (List.map GTerm.c m316_)) [], .v (.sl (List.map GTerm.c m317_)) []] (.v (.bool r) []) [] := by
  refine FnO.of Try.func27 (rfl : Try.f27.body = some _) (Nat.le_of_ble_eq_true (by kernel_rfl)) (Nat.le_of_ble_eq_true (by kernel_rfl)) ?_
  intro w0 X0 Fin pv0 pb
  unfold plaws_sameTerms at h
  refine Wc.seq ?_
  refine Wc.region [] [] [0, 1] [] [] ⟨[(0, (.v (.sl (List.map GTerm.c m316_)), [])), (1, (.v (.sl (List.map GTerm.c m317_)), []))], [], []⟩ _ (by kernel_rfl) .nil ?_
  refine Wc.seq ?_
  refine Wc.seq ?_
  refine Wc.region [{}, { v := some (.int .i64 (m316_.length : Int)) }, {}, { v := some (.int .i64 (m317_.length : Int)) }] [] [0, 1, 10] [] [] ⟨[(0, (.v (.sl (List.map GTerm.c m316_)), [])), (1, (.v (.sl (List.map GTerm.c m317_)), [])), (10, (.v (.bool ((m316_.length : Int) != (m317_.length : Int))), []))], [], []⟩ _ (by kernel_rfl) (.cons (len_obl GTerm.c m316_) (.cons (len_obl GTerm.c m317_) .nil)) ?_
  rcases oif h with ⟨h322, h⟩ | ⟨h322, h⟩
  · refine Wc.condT h322 (by kernel_rfl) ?_
    refine Wc.seq ?_
    refine Wc.region [] [] [4] [] [] ⟨[(4, (.v (.bool false), []))], [], []⟩ _ (by kernel_rfl) .nil ?_
    refine Wc.ret ?_
    obtain rfl := Option.some.inj h
    exact ⟨.inl rfl, by kernel_rfl, by kernel_rfl⟩
  · refine Wc.condF h322 (by kernel_rfl) ?_
    refine Wc.fix (st' := ⟨[(0, (.v (.sl (List.map GTerm.c m316_)), [])), (1, (.v (.sl (List.map GTerm.c m317_)), []))], [], []⟩) [] [0, 1] [] [] (by kernel_rfl) ?_
    refine Wc.skip ?_
    refine Wc.seq ?_
    refine Wc.seq ?_
    refine Wc.region [] [] [0, 1, 5] [] [] ⟨[(0, (.v (.sl (List.map GTerm.c m316_)), [])), (1, (.v (.sl (List.map GTerm.c m317_)), [])), (5, (.v (.int .i64 0), []))], [], []⟩ _ (by kernel_rfl) .nil ?_
    obtain ⟨out1, h323, h⟩ := obind h
    refine Wc.lastJ (fun st => out1 = .done () ∧ st = ⟨[], [], []⟩) ?_ ?_
    · refine Wc.block ?_
      refine Wc.loop (fun m st => ∃ (b318_ : Int), st = ⟨[(0, (.v (.sl (List.map GTerm.c m316_)), [])), (1, (.v (.sl (List.map GTerm.c m317_)), [])), (5, (.v (.int .i64 b318_), []))], [], []⟩ ∧ plaws_sameTerms_L1 k m316_ m317_ m b318_ = some out1) ?_ k ⟨_, rfl, h323⟩
      rintro m st ⟨b318_, rfl, h323⟩
      cases m with
      | zero => exact (onone h323).elim
      | succ m =>
        refine Wc.seq ?_
        refine Wc.seq ?_
        refine Wc.region [{}, {}, { v := some (.int .i64 (m316_.length : Int)) }] [] [0, 1, 5, 14] [] [] ⟨[(0, (.v (.sl (List.map GTerm.c m316_)), [])), (1, (.v (.sl (List.map GTerm.c m317_)), [])), (5, (.v (.int .i64 b318_), [])), (14, (.v (.bool (decide (b318_ < (m316_.length : Int)))), []))], [], []⟩ _ (by kernel_rfl) (.cons (len_obl GTerm.c m316_) .nil) ?_
        rcases oif h323 with ⟨h324, h323⟩ | ⟨h324, h323⟩
        · refine Wc.condT h324 (by kernel_rfl) ?_
          refine Wc.fix (st' := ⟨[(0, (.v (.sl (List.map GTerm.c m316_)), [])), (1, (.v (.sl (List.map GTerm.c m317_)), [])), (5, (.v (.int .i64 b318_), []))], [], []⟩) [] [0, 1, 5] [] [] (by kernel_rfl) ?_
          refine Wc.skip ?_
          refine Wc.seq ?_
          refine Wc.block ?_
          refine Wc.seq ?_
          obtain ⟨f319_, h325, h323⟩ := obind h323
          obtain ⟨f320_, h326, h323⟩ := obind h323
          obtain ⟨g321_, h327, h323⟩ := obind h323
          refine Wc.draw hmix [{}, {}, { v := some (.vptr [.int .i64 f319_.gKind, .str f319_.gName, .int .i64 f319_.gNum, .sl (List.map GTerm.c f319_.gKids)]) }, {}, {}, {}, { v := some (.vptr [.int .i64 f320_.gKind, .str f320_.gName, .int .i64 f320_.gNum, .sl (List.map GTerm.c f320_.gKids)]) }, {}, { r := some (.v (.bool g321_) []) }] [] [0, 1, 5, 26] [] [] ⟨[(0, (.v (.sl (List.map GTerm.c m316_)), [])), (1, (.v (.sl (List.map GTerm.c m317_)), [])), (5, (.v (.int .i64 b318_), [])), (26, (.v (.bool (!g321_)), []))], [], []⟩ _ (by kernel_rfl) (fun X => by kernel_rfl) (.cons (at_obl (c := GTerm.c) (GTerm.c_eq f319_) GTerm.c_len h325) (.cons (len_ok 4 [.int .i64 f319_.gKind, .str f319_.gName, .int .i64 f319_.gNum, .sl (List.map GTerm.c f319_.gKids)]) (.cons (at_obl (c := GTerm.c) (GTerm.c_eq f320_) GTerm.c_len h326) (.cons (len_ok 4 [.int .i64 f320_.gKind, .str f320_.gName, .int .i64 f320_.gNum, .sl (List.map GTerm.c f320_.gKids)]) (.cons (cspec_SameTerm h327) .nil))))) ?_
          rcases oif h323 with ⟨h328, h323⟩ | ⟨h328, h323⟩
          · refine Wc.condT h328 (by kernel_rfl) ?_
            refine Wc.seq ?_
            refine Wc.region [] [] [4] [] [] ⟨[(4, (.v (.bool false), []))], [], []⟩ _ (by kernel_rfl) .nil ?_
            refine Wc.ret ?_
            obtain rfl := Option.some.inj h323
            obtain rfl := Option.some.inj h
            exact ⟨.inl rfl, by kernel_rfl, by kernel_rfl⟩
          · refine Wc.condF h328 (by kernel_rfl) ?_
            refine Wc.fix (st' := ⟨[(0, (.v (.sl (List.map GTerm.c m316_)), [])), (1, (.v (.sl (List.map GTerm.c m317_)), [])), (5, (.v (.int .i64 b318_), []))], [], []⟩) [] [0, 1, 5] [] [] (by kernel_rfl) ?_
            refine Wc.skip ?_
            refine Wc.region [] [] [0, 1, 5] [] [] ⟨[(0, (.v (.sl (List.map GTerm.c m316_)), [])), (1, (.v (.sl (List.map GTerm.c m317_)), [])), (5, (.v (.int .i64 (wr.i64 (b318_ + 1))), []))], [], []⟩ _ (by kernel_rfl) .nil ?_
            exact ⟨_, Nat.lt_succ_self _, _, rfl, h323⟩
        · refine Wc.condF h324 (by kernel_rfl) ?_
          refine Wc.fix (st' := ⟨[], [], []⟩) [] [] [] [] (by kernel_rfl) ?_
          refine Wc.exit ?_
          obtain rfl := Option.some.inj h323
          exact ⟨rfl, rfl⟩
    · rintro st ⟨rfl, rfl⟩
      refine Wc.seq ?_
      refine Wc.region [] [] [4] [] [] ⟨[(4, (.v (.bool true), []))], [], []⟩ _ (by kernel_rfl) .nil ?_
      refine Wc.ret ?_
      obtain rfl := Option.some.inj h
      exact ⟨.inl rfl, by kernel_rfl, by kernel_rfl⟩

def pslices_EqualFunc___impl_Term___impl_Term_impl_Term_impl_Term__on2_pimpl_SameTerm_L1 (k : Nat) (rimpl_SameTerm : GTerm → GTerm → Option Bool) (m337_ : List GTerm) (m338_ : List GTerm) : Nat → Int → Option (Out Bool Unit)
  | 0, _ => none
  | m + 1, b339_ =>
    if (decide (b339_ < (m337_.length : Int))) = true then
      (at' m337_ b339_).bind fun f340_ =>
      (at' m338_ b339_).bind fun f341_ =>
      (rimpl_SameTerm f340_ f341_).bind fun g342_ =>
      if (!g342_) = true then
        some (.ret false)
      else
        pslices_EqualFunc___impl_Term___impl_Term_impl_Term_impl_Term__on2_pimpl_SameTerm_L1 k rimpl_SameTerm m337_ m338_ m (wr.i64 (b339_ + 1))
    else
      some (.done ())
/-- slices.EqualFunc[[]impl.Term,[]impl.Term,impl.Term,impl.Term] -/
def pslices_EqualFunc___impl_Term___impl_Term_impl_Term_impl_Term__on2_pimpl_SameTerm (k : Nat) (rimpl_SameTerm : GTerm → GTerm → Option Bool) (m337_ : List GTerm) (m338_ : List GTerm) : Option Bool :=
  if ((m337_.length : Int) != (m338_.length : Int)) = true then
    some false
  else
    (pslices_EqualFunc___impl_Term___impl_Term_impl_Term_impl_Term__on2_pimpl_SameTerm_L1 k rimpl_SameTerm m337_ m338_ k 0).bind fun out1 => match out1 with
    | .ret r => some r
    | .done () =>
      some true
theorem cslices_EqualFunc___impl_Term___impl_Term_impl_Term_impl_Term__on2_pimpl_SameTerm {k : Nat} {rimpl_SameTerm : GTerm → GTerm → Option Bool} (ih_pimpl_SameTerm : ∀ {y0 : GTerm} {y1 : GTerm} {r : Bool}, rimpl_SameTerm y0 y1 = some r → FnO Try.prog 82 [.v (.agg [.int .i64 y0.gKind, .str y0.gName, .int .i64 y0.gNum, .sl (List.map GTerm.c y0.gKids)]) [], .v (.agg [.int .i64 y1.gKind, .str y1.gName, .int .i64 y1.gNum, .sl (List.map GTerm.c y1.gKids)]) []] (.v (.bool r) []) []) {m337_ : List GTerm} {m338_ : List GTerm} {r : Bool} (h : pslices_EqualFunc___impl_Term___impl_Term_impl_Term_impl_Term__on2_pimpl_SameTerm k rimpl_SameTerm m337_ m338_ = some r) : FnO Try.prog 135 [.v (.sl (List.map GTerm.c m337_)) [], .v (.sl (List.map GTerm.c m338_)) [], .v (.func 82 []) []] (.v (.bool r) []) [] := by
  refine FnO.of Try.func135 (rfl : Try.f135.body = some _) (Nat.le_of_ble_eq_true (by kernel_rfl)) (Nat.le_of_ble_eq_true (by kernel_rfl)) ?_
  intro w0 X0 Fin pv0 pb
  unfold pslices_EqualFunc___impl_Term___impl_Term_impl_Term_impl_Term__on2_pimpl_SameTerm at h
  refine Wc.seq ?_
  refine Wc.region [] [] [0, 1, 2] [] [] ⟨[(0, (.v (.sl (List.map GTerm.c m337_)), [])), (1, (.v (.sl (List.map GTerm.c m338_)), [])), (2, (.v (.func 82 []), []))], [], []⟩ _ (by kernel_rfl) .nil ?_
  refine Wc.seq ?_
  refine Wc.seq ?_
  refine Wc.region [{}, { v := some (.int .i64 (m337_.length : Int)) }, {}, { v := some (.int .i64 (m338_.length : Int)) }] [] [0, 1, 2, 14] [] [] ⟨[(0, (.v (.sl (List.map GTerm.c m337_)), [])), (1, (.v (.sl (List.map GTerm.c m338_)), [])), (2, (.v (.func 82 []), [])), (14, (.v (.bool ((m337_.length : Int) != (m338_.length : Int))), []))], [], []⟩ _ (by kernel_rfl) (.cons (len_obl GTerm.c m337_) (.cons (len_obl GTerm.c m338_) .nil)) ?_
  rcases oif h with ⟨h341, h⟩ | ⟨h341, h⟩
  · refine Wc.condT h341 (by kernel_rfl) ?_
    refine Wc.seq ?_
    refine Wc.region [] [] [6] [] [] ⟨[(6, (.v (.bool false), []))], [], []⟩ _ (by kernel_rfl) .nil ?_
    refine Wc.ret ?_
    obtain rfl := Option.some.inj h
    exact ⟨.inl rfl, by kernel_rfl, by kernel_rfl⟩
  · refine Wc.condF h341 (by kernel_rfl) ?_
    refine Wc.fix (st' := ⟨[(0, (.v (.sl (List.map GTerm.c m337_)), [])), (1, (.v (.sl (List.map GTerm.c m338_)), [])), (2, (.v (.func 82 []), []))], [], []⟩) [] [0, 1, 2] [] [] (by kernel_rfl) ?_
    refine Wc.skip ?_
    refine Wc.seq ?_
    refine Wc.seq ?_
    refine Wc.region [{}, { v := some (.int .i64 (m337_.length : Int)) }] [] [1, 2, 15, 16, 17] [] [] ⟨[(1, (.v (.sl (List.map GTerm.c m338_)), [])), (2, (.v (.func 82 []), [])), (15, (.v (.sl (List.map GTerm.c m337_)), [])), (16, (.v (.int .i64 (m337_.length : Int)), [])), (17, (.v (.int .i64 0), []))], [], []⟩ _ (by kernel_rfl) (.cons (len_obl GTerm.c m337_) .nil) ?_
    obtain ⟨out1, h342, h⟩ := obind h
    refine Wc.lastJ (fun st => out1 = .done () ∧ st = ⟨[], [], []⟩) ?_ ?_
    · refine Wc.block ?_
      refine Wc.loop (fun m st => ∃ (b339_ : Int), st = ⟨[(1, (.v (.sl (List.map GTerm.c m338_)), [])), (2, (.v (.func 82 []), [])), (15, (.v (.sl (List.map GTerm.c m337_)), [])), (16, (.v (.int .i64 (m337_.length : Int)), [])), (17, (.v (.int .i64 b339_), []))], [], []⟩ ∧ pslices_EqualFunc___impl_Term___impl_Term_impl_Term_impl_Term__on2_pimpl_SameTerm_L1 k rimpl_SameTerm m337_ m338_ m b339_ = some out1) ?_ k ⟨_, rfl, h342⟩
      rintro m st ⟨b339_, rfl, h342⟩
      cases m with
      | zero => exact (onone h342).elim
      | succ m =>
        refine Wc.seq ?_
        refine Wc.region [] [] [1, 2, 15, 16, 17, 18] [] [] ⟨[(1, (.v (.sl (List.map GTerm.c m338_)), [])), (2, (.v (.func 82 []), [])), (15, (.v (.sl (List.map GTerm.c m337_)), [])), (16, (.v (.int .i64 (m337_.length : Int)), [])), (17, (.v (.int .i64 b339_), [])), (18, (.v (.bool (decide (b339_ < (m337_.length : Int)))), []))], [], []⟩ _ (by kernel_rfl) .nil ?_
        refine Wc.seq ?_
        rcases oif h342 with ⟨h343, h342⟩ | ⟨h343, h342⟩
        · refine Wc.condT h343 (by kernel_rfl) ?_
          refine Wc.fix (st' := ⟨[(1, (.v (.sl (List.map GTerm.c m338_)), [])), (2, (.v (.func 82 []), [])), (15, (.v (.sl (List.map GTerm.c m337_)), [])), (16, (.v (.int .i64 (m337_.length : Int)), [])), (17, (.v (.int .i64 b339_), []))], [], []⟩) [] [1, 2, 15, 16, 17] [] [] (by kernel_rfl) ?_
          refine Wc.skip ?_
          refine Wc.seq ?_
          refine Wc.block ?_
          refine Wc.seq ?_
          obtain ⟨f340_, h344, h342⟩ := obind h342
          refine Wc.region [{}, { v := some (.vptr [.int .i64 f340_.gKind, .str f340_.gName, .int .i64 f340_.gNum, .sl (List.map GTerm.c f340_.gKids)]) }] [] [1, 2, 7, 8, 15, 16, 17] [8] [] ⟨[(1, (.v (.sl (List.map GTerm.c m338_)), [])), (2, (.v (.func 82 []), [])), (7, (.v (.int .i64 b339_), [])), (8, (.ptr 8 0, [])), (15, (.v (.sl (List.map GTerm.c m337_)), [])), (16, (.v (.int .i64 (m337_.length : Int)), [])), (17, (.v (.int .i64 b339_), []))], [(8, .cells [.int .i64 f340_.gKind, .str f340_.gName, .int .i64 f340_.gNum, .sl (List.map GTerm.c f340_.gKids)] [])], []⟩ _ (by kernel_rfl) (.cons (at_obl (c := GTerm.c) (GTerm.c_eq f340_) GTerm.c_len h344) (.cons (len_ok 4 [.int .i64 f340_.gKind, .str f340_.gName, .int .i64 f340_.gNum, .sl (List.map GTerm.c f340_.gKids)]) .nil)) ?_
          refine Wc.seq ?_
          obtain ⟨f341_, h345, h342⟩ := obind h342
          refine Wc.region [{}, {}, { v := some (.vptr [.int .i64 f341_.gKind, .str f341_.gName, .int .i64 f341_.gNum, .sl (List.map GTerm.c f341_.gKids)]) }] [] [1, 2, 8, 9, 15, 16, 17] [8, 9] [] ⟨[(1, (.v (.sl (List.map GTerm.c m338_)), [])), (2, (.v (.func 82 []), [])), (8, (.ptr 8 0, [])), (9, (.ptr 9 0, [])), (15, (.v (.sl (List.map GTerm.c m337_)), [])), (16, (.v (.int .i64 (m337_.length : Int)), [])), (17, (.v (.int .i64 b339_), []))], [(8, .cells [.int .i64 f340_.gKind, .str f340_.gName, .int .i64 f340_.gNum, .sl (List.map GTerm.c f340_.gKids)] []), (9, .cells [.int .i64 f341_.gKind, .str f341_.gName, .int .i64 f341_.gNum, .sl (List.map GTerm.c f341_.gKids)] [])], []⟩ _ (by kernel_rfl) (.cons (at_obl (c := GTerm.c) (GTerm.c_eq f341_) GTerm.c_len h345) (.cons (len_ok 4 [.int .i64 f341_.gKind, .str f341_.gName, .int .i64 f341_.gNum, .sl (List.map GTerm.c f341_.gKids)]) .nil)) ?_
          refine Wc.seq ?_
          obtain ⟨g342_, h346, h342⟩ := obind h342
          refine Wc.region [{}, {}, {}, { r := some (.v (.bool g342_) []) }] [] [1, 2, 15, 16, 17, 30] [] [] ⟨[(1, (.v (.sl (List.map GTerm.c m338_)), [])), (2, (.v (.func 82 []), [])), (15, (.v (.sl (List.map GTerm.c m337_)), [])), (16, (.v (.int .i64 (m337_.length : Int)), [])), (17, (.v (.int .i64 b339_), [])), (30, (.v (.bool (!g342_)), []))], [], []⟩ _ (by kernel_rfl) (.cons (ih_pimpl_SameTerm h346) .nil) ?_
          rcases oif h342 with ⟨h347, h342⟩ | ⟨h347, h342⟩
          · refine Wc.condT h347 (by kernel_rfl) ?_
            refine Wc.seq ?_
            refine Wc.region [] [] [6] [] [] ⟨[(6, (.v (.bool false), []))], [], []⟩ _ (by kernel_rfl) .nil ?_
            refine Wc.ret ?_
            obtain rfl := Option.some.inj h342
            obtain rfl := Option.some.inj h
            exact ⟨.inl rfl, by kernel_rfl, by kernel_rfl⟩
          · refine Wc.condF h347 (by kernel_rfl) ?_
            refine Wc.fix (st' := ⟨[(1, (.v (.sl (List.map GTerm.c m338_)), [])), (2, (.v (.func 82 []), [])), (15, (.v (.sl (List.map GTerm.c m337_)), [])), (16, (.v (.int .i64 (m337_.length : Int)), [])), (17, (.v (.int .i64 b339_), []))], [], []⟩) [] [1, 2, 15, 16, 17] [] [] (by kernel_rfl) ?_
            refine Wc.skip ?_
            refine Wc.region [] [] [1, 2, 15, 16, 17] [] [] ⟨[(1, (.v (.sl (List.map GTerm.c m338_)), [])), (2, (.v (.func 82 []), [])), (15, (.v (.sl (List.map GTerm.c m337_)), [])), (16, (.v (.int .i64 (m337_.length : Int)), [])), (17, (.v (.int .i64 (wr.i64 (b339_ + 1))), []))], [], []⟩ _ (by kernel_rfl) .nil ?_
            exact ⟨_, Nat.lt_succ_self _, _, rfl, h342⟩
        · refine Wc.condF h343 (by kernel_rfl) ?_
          refine Wc.fix (st' := ⟨[], [], []⟩) [] [] [] [] (by kernel_rfl) ?_
          refine Wc.exit ?_
          obtain rfl := Option.some.inj h342
          exact ⟨rfl, rfl⟩
    · rintro st ⟨rfl, rfl⟩
      refine Wc.seq ?_
      refine Wc.region [] [] [6] [] [] ⟨[(6, (.v (.bool true), []))], [], []⟩ _ (by kernel_rfl) .nil ?_
      refine Wc.ret ?_
      obtain rfl := Option.some.inj h
      exact ⟨.inl rfl, by kernel_rfl, by kernel_rfl⟩

mutual
/-- impl.SameTerm -/
def pimpl_SameTerm : Nat → GTerm → GTerm → Option Bool
  | 0, _, _ => none
  | k + 1, f335_, f336_ =>
    if (f335_.gKind == f336_.gKind) = true then
      if (sEq f335_.gName f336_.gName) = true then
        if (f335_.gNum == f336_.gNum) = true then
          (pslices_EqualFunc___impl_Term___impl_Term_impl_Term_impl_Term__on2_pimpl_SameTerm k (pimpl_SameTerm k) f335_.gKids f336_.gKids).bind fun g343_ =>
          some g343_
        else
          some false
      else
        some false
    else
      some false
end
theorem all_pimpl_SameTerm : ∀ k : Nat, (∀ {f335_ : GTerm} {f336_ : GTerm} {r : Bool}, pimpl_SameTerm k f335_ f336_ = some r → FnO Try.prog 82 [.v (.agg [.int .i64 f335_.gKind, .str f335_.gName, .int .i64 f335_.gNum, .sl (List.map GTerm.c f335_.gKids)]) [], .v (.agg [.int .i64 f336_.gKind, .str f336_.gName, .int .i64 f336_.gNum, .sl (List.map GTerm.c f336_.gKids)]) []] (.v (.bool r) []) []) := by
  intro k
  induction k with
  | zero =>
    · intro f335_ f336_ r h
      exact (onone (by rw [pimpl_SameTerm] at h; exact h)).elim
  | succ k ih =>
    have ih_pimpl_SameTerm := @ih
    · intro f335_ f336_ r h
      rw [pimpl_SameTerm] at h
      refine FnO.of Try.func82 (rfl : Try.f82.body = some _) (Nat.le_of_ble_eq_true (by kernel_rfl)) (Nat.le_of_ble_eq_true (by kernel_rfl)) ?_
      intro w0 X0 Fin pv0 pb
      refine Wc.seq ?_
      refine Wc.region [] [] [2, 3] [2, 3] [] ⟨[(2, (.ptr 2 0, [])), (3, (.ptr 3 0, []))], [(2, .cells [.int .i64 f335_.gKind, .str f335_.gName, .int .i64 f335_.gNum, .sl (List.map GTerm.c f335_.gKids)] []), (3, .cells [.int .i64 f336_.gKind, .str f336_.gName, .int .i64 f336_.gNum, .sl (List.map GTerm.c f336_.gKids)] [])], []⟩ _ (by kernel_rfl) .nil ?_
      refine Wc.seq ?_
      rcases oif h with ⟨h338, h⟩ | ⟨h338, h⟩
      · rcases oif h with ⟨h339, h⟩ | ⟨h339, h⟩
        · rcases oif h with ⟨h340, h⟩ | ⟨h340, h⟩
          · obtain ⟨g343_, h348, h⟩ := obind h
            refine Wc.region [{}, {}, {}, {}, {}, { re := some (.bool true) }, {}, {}, {}, {}, {}, {}, { re := some (.bool true) }, {}, {}, {}, {}, {}, {}, { re := some (.bool true) }, {}, {}, {}, {}, { r := some (.v (.bool g343_) []) }] [] [4] [] [] ⟨[(4, (.v (.bool g343_), []))], [], []⟩ _ (by kernel_rfl) (.cons (congrArg AV.bool h338) (.cons (congrArg AV.bool h339) (.cons (congrArg AV.bool h340) (.cons (cslices_EqualFunc___impl_Term___impl_Term_impl_Term_impl_Term__on2_pimpl_SameTerm (fun h => ih_pimpl_SameTerm h) h348) .nil)))) ?_
            refine Wc.ret ?_
            obtain rfl := Option.some.inj h
            exact ⟨.inl rfl, by kernel_rfl, by kernel_rfl⟩
          · refine Wc.region [{}, {}, {}, {}, {}, { re := some (.bool true) }, {}, {}, {}, {}, {}, {}, { re := some (.bool true) }, {}, {}, {}, {}, {}, {}, { re := some (.bool false) }] [] [4] [] [] ⟨[(4, (.v (.bool false), []))], [], []⟩ _ (by kernel_rfl) (.cons (congrArg AV.bool h338) (.cons (congrArg AV.bool h339) (.cons (congrArg AV.bool h340) .nil))) ?_
            refine Wc.ret ?_
            obtain rfl := Option.some.inj h
            exact ⟨.inl rfl, by kernel_rfl, by kernel_rfl⟩
        · refine Wc.region [{}, {}, {}, {}, {}, { re := some (.bool true) }, {}, {}, {}, {}, {}, {}, { re := some (.bool false) }] [] [4] [] [] ⟨[(4, (.v (.bool false), []))], [], []⟩ _ (by kernel_rfl) (.cons (congrArg AV.bool h338) (.cons (congrArg AV.bool h339) .nil)) ?_
          refine Wc.ret ?_
          obtain rfl := Option.some.inj h
          exact ⟨.inl rfl, by kernel_rfl, by kernel_rfl⟩
      · refine Wc.region [{}, {}, {}, {}, {}, { re := some (.bool false) }] [] [4] [] [] ⟨[(4, (.v (.bool false), []))], [], []⟩ _ (by kernel_rfl) (.cons (congrArg AV.bool h338) .nil) ?_
        refine Wc.ret ?_
        obtain rfl := Option.some.inj h
        exact ⟨.inl rfl, by kernel_rfl, by kernel_rfl⟩
theorem cimpl_SameTerm {k : Nat} {f335_ : GTerm} {f336_ : GTerm} {r : Bool} (h : pimpl_SameTerm k f335_ f336_ = some r) : FnO Try.prog 82 [.v (.agg [.int .i64 f335_.gKind, .str f335_.gName, .int .i64 f335_.gNum, .sl (List.map GTerm.c f335_.gKids)]) [], .v (.agg [.int .i64 f336_.gKind, .str f336_.gName, .int .i64 f336_.gNum, .sl (List.map GTerm.c f336_.gKids)]) []] (.v (.bool r) []) [] := (all_pimpl_SameTerm k) h

/-- impl.TermIn$1 -/
def pimpl_TermIn_1 (k : Nat) (f328_ : GTerm) (f329_ : GTerm) : Option Bool :=
  (pimpl_SameTerm k f328_ f329_).bind fun g330_ =>
  some g330_
theorem cimpl_TermIn_1 {k : Nat} {f328_ : GTerm} {f329_ : GTerm} {r : Bool} (h : pimpl_TermIn_1 k f328_ f329_ = some r) : FnO Try.prog 81 [.v (.agg [.int .i64 f328_.gKind, .str f328_.gName, .int .i64 f328_.gNum, .sl (List.map GTerm.c f328_.gKids)]) [], .v (.vptr [.int .i64 f329_.gKind, .str f329_.gName, .int .i64 f329_.gNum, .sl (List.map GTerm.c f329_.gKids)]) []] (.v (.bool r) []) [] := by
  refine FnO.of Try.func81 (rfl : Try.f81.body = some _) (Nat.le_of_ble_eq_true (by kernel_rfl)) (Nat.le_of_ble_eq_true (by kernel_rfl)) ?_
  intro w0 X0 Fin pv0 pb
  unfold pimpl_TermIn_1 at h
  refine Wc.seq ?_
  refine Wc.region [] [] [1, 2] [2] [] ⟨[(1, (.v (.vptr [.int .i64 f329_.gKind, .str f329_.gName, .int .i64 f329_.gNum, .sl (List.map GTerm.c f329_.gKids)]), [])), (2, (.ptr 2 0, []))], [(2, .cells [.int .i64 f328_.gKind, .str f328_.gName, .int .i64 f328_.gNum, .sl (List.map GTerm.c f328_.gKids)] [])], []⟩ _ (by kernel_rfl) .nil ?_
  refine Wc.seq ?_
  obtain ⟨g330_, h331, h⟩ := obind h
  refine Wc.region [{}, {}, { r := some (.v (.bool g330_) []) }] [] [3] [] [] ⟨[(3, (.v (.bool g330_), []))], [], []⟩ _ (by kernel_rfl) (.cons (len_ok 4 [.int .i64 f329_.gKind, .str f329_.gName, .int .i64 f329_.gNum, .sl (List.map GTerm.c f329_.gKids)]) (.cons (cimpl_SameTerm h331) .nil)) ?_
  refine Wc.ret ?_
  obtain rfl := Option.some.inj h
  exact ⟨.inl rfl, by kernel_rfl, by kernel_rfl⟩

def pslices_IndexFunc___impl_Term_impl_Term__on1_pimpl_TermIn_1_L1 (k : Nat) (m324_ : List GTerm) (f325_ : GTerm) : Nat → Int → Option (Out Int Unit)
  | 0, _ => none
  | m + 1, b326_ =>
    if (decide (b326_ < (m324_.length : Int))) = true then
      (at' m324_ b326_).bind fun f327_ =>
      (pimpl_TermIn_1 k f327_ f325_).bind fun g328_ =>
      if g328_ = true then
        some (.ret b326_)
      else
        pslices_IndexFunc___impl_Term_impl_Term__on1_pimpl_TermIn_1_L1 k m324_ f325_ m (wr.i64 (b326_ + 1))
    else
      some (.done ())
/-- slices.IndexFunc[[]impl.Term,impl.Term] -/
def pslices_IndexFunc___impl_Term_impl_Term__on1_pimpl_TermIn_1 (k : Nat) (m324_ : List GTerm) (f325_ : GTerm) : Option Int :=
  (pslices_IndexFunc___impl_Term_impl_Term__on1_pimpl_TermIn_1_L1 k m324_ f325_ k 0).bind fun out1 => match out1 with
  | .ret r => some r
  | .done () =>
    some (-1)
theorem cslices_IndexFunc___impl_Term_impl_Term__on1_pimpl_TermIn_1 {k : Nat} {m324_ : List GTerm} {f325_ : GTerm} {r : Int} (h : pslices_IndexFunc___impl_Term_impl_Term__on1_pimpl_TermIn_1 k m324_ f325_ = some r) : FnO Try.prog 80 [.v (.sl (List.map GTerm.c m324_)) [], .v (.func 81 [.vptr [.int .i64 f325_.gKind, .str f325_.gName, .int .i64 f325_.gNum, .sl (List.map GTerm.c f325_.gKids)]]) []] (.v (.int .i64 r) []) [] := by
  refine FnO.of Try.func80 (rfl : Try.f80.body = some _) (Nat.le_of_ble_eq_true (by kernel_rfl)) (Nat.le_of_ble_eq_true (by kernel_rfl)) ?_
  intro w0 X0 Fin pv0 pb
  unfold pslices_IndexFunc___impl_Term_impl_Term__on1_pimpl_TermIn_1 at h
  refine Wc.seq ?_
  refine Wc.region [] [] [0, 1] [] [] ⟨[(0, (.v (.sl (List.map GTerm.c m324_)), [])), (1, (.v (.func 81 [.vptr [.int .i64 f325_.gKind, .str f325_.gName, .int .i64 f325_.gNum, .sl (List.map GTerm.c f325_.gKids)]]), []))], [], []⟩ _ (by kernel_rfl) .nil ?_
  refine Wc.seq ?_
  refine Wc.seq ?_
  refine Wc.region [{}, { v := some (.int .i64 (m324_.length : Int)) }] [] [0, 1, 7, 8] [] [] ⟨[(0, (.v (.sl (List.map GTerm.c m324_)), [])), (1, (.v (.func 81 [.vptr [.int .i64 f325_.gKind, .str f325_.gName, .int .i64 f325_.gNum, .sl (List.map GTerm.c f325_.gKids)]]), [])), (7, (.v (.int .i64 (m324_.length : Int)), [])), (8, (.v (.int .i64 0), []))], [], []⟩ _ (by kernel_rfl) (.cons (len_obl GTerm.c m324_) .nil) ?_
  obtain ⟨out1, h329, h⟩ := obind h
  refine Wc.lastJ (fun st => out1 = .done () ∧ st = ⟨[], [], []⟩) ?_ ?_
  · refine Wc.block ?_
    refine Wc.loop (fun m st => ∃ (b326_ : Int), st = ⟨[(0, (.v (.sl (List.map GTerm.c m324_)), [])), (1, (.v (.func 81 [.vptr [.int .i64 f325_.gKind, .str f325_.gName, .int .i64 f325_.gNum, .sl (List.map GTerm.c f325_.gKids)]]), [])), (7, (.v (.int .i64 (m324_.length : Int)), [])), (8, (.v (.int .i64 b326_), []))], [], []⟩ ∧ pslices_IndexFunc___impl_Term_impl_Term__on1_pimpl_TermIn_1_L1 k m324_ f325_ m b326_ = some out1) ?_ k ⟨_, rfl, h329⟩
    rintro m st ⟨b326_, rfl, h329⟩
    cases m with
    | zero => exact (onone h329).elim
    | succ m =>
      refine Wc.seq ?_
      refine Wc.region [] [] [0, 1, 7, 8, 9] [] [] ⟨[(0, (.v (.sl (List.map GTerm.c m324_)), [])), (1, (.v (.func 81 [.vptr [.int .i64 f325_.gKind, .str f325_.gName, .int .i64 f325_.gNum, .sl (List.map GTerm.c f325_.gKids)]]), [])), (7, (.v (.int .i64 (m324_.length : Int)), [])), (8, (.v (.int .i64 b326_), [])), (9, (.v (.bool (decide (b326_ < (m324_.length : Int)))), []))], [], []⟩ _ (by kernel_rfl) .nil ?_
      refine Wc.seq ?_
      rcases oif h329 with ⟨h330, h329⟩ | ⟨h330, h329⟩
      · refine Wc.condT h330 (by kernel_rfl) ?_
        refine Wc.fix (st' := ⟨[(0, (.v (.sl (List.map GTerm.c m324_)), [])), (1, (.v (.func 81 [.vptr [.int .i64 f325_.gKind, .str f325_.gName, .int .i64 f325_.gNum, .sl (List.map GTerm.c f325_.gKids)]]), [])), (7, (.v (.int .i64 (m324_.length : Int)), [])), (8, (.v (.int .i64 b326_), []))], [], []⟩) [] [0, 1, 7, 8] [] [] (by kernel_rfl) ?_
        refine Wc.skip ?_
        refine Wc.seq ?_
        refine Wc.block ?_
        refine Wc.seq ?_
        refine Wc.region [] [] [0, 1, 5, 7, 8] [] [] ⟨[(0, (.v (.sl (List.map GTerm.c m324_)), [])), (1, (.v (.func 81 [.vptr [.int .i64 f325_.gKind, .str f325_.gName, .int .i64 f325_.gNum, .sl (List.map GTerm.c f325_.gKids)]]), [])), (5, (.v (.int .i64 b326_), [])), (7, (.v (.int .i64 (m324_.length : Int)), [])), (8, (.v (.int .i64 b326_), []))], [], []⟩ _ (by kernel_rfl) .nil ?_
        refine Wc.seq ?_
        obtain ⟨f327_, h331, h329⟩ := obind h329
        obtain ⟨g328_, h332, h329⟩ := obind h329
        refine Wc.region [{}, {}, {}, { v := some (.vptr [.int .i64 f327_.gKind, .str f327_.gName, .int .i64 f327_.gNum, .sl (List.map GTerm.c f327_.gKids)]) }, {}, { r := some (.v (.bool g328_) []) }] [] [0, 1, 5, 7, 8, 16] [] [] ⟨[(0, (.v (.sl (List.map GTerm.c m324_)), [])), (1, (.v (.func 81 [.vptr [.int .i64 f325_.gKind, .str f325_.gName, .int .i64 f325_.gNum, .sl (List.map GTerm.c f325_.gKids)]]), [])), (5, (.v (.int .i64 b326_), [])), (7, (.v (.int .i64 (m324_.length : Int)), [])), (8, (.v (.int .i64 b326_), [])), (16, (.v (.bool g328_), []))], [], []⟩ _ (by kernel_rfl) (.cons (at_obl (c := GTerm.c) (GTerm.c_eq f327_) GTerm.c_len h331) (.cons (len_ok 4 [.int .i64 f327_.gKind, .str f327_.gName, .int .i64 f327_.gNum, .sl (List.map GTerm.c f327_.gKids)]) (.cons (cimpl_TermIn_1 h332) .nil))) ?_
        rcases oif h329 with ⟨h333, h329⟩ | ⟨h333, h329⟩
        · refine Wc.condT h333 (by kernel_rfl) ?_
          refine Wc.seq ?_
          refine Wc.region [] [] [4] [] [] ⟨[(4, (.v (.int .i64 b326_), []))], [], []⟩ _ (by kernel_rfl) .nil ?_
          refine Wc.ret ?_
          obtain rfl := Option.some.inj h329
          obtain rfl := Option.some.inj h
          exact ⟨.inl rfl, by kernel_rfl, by kernel_rfl⟩
        · refine Wc.condF h333 (by kernel_rfl) ?_
          refine Wc.fix (st' := ⟨[(0, (.v (.sl (List.map GTerm.c m324_)), [])), (1, (.v (.func 81 [.vptr [.int .i64 f325_.gKind, .str f325_.gName, .int .i64 f325_.gNum, .sl (List.map GTerm.c f325_.gKids)]]), [])), (7, (.v (.int .i64 (m324_.length : Int)), [])), (8, (.v (.int .i64 b326_), []))], [], []⟩) [] [0, 1, 7, 8] [] [] (by kernel_rfl) ?_
          refine Wc.skip ?_
          refine Wc.region [] [] [0, 1, 7, 8] [] [] ⟨[(0, (.v (.sl (List.map GTerm.c m324_)), [])), (1, (.v (.func 81 [.vptr [.int .i64 f325_.gKind, .str f325_.gName, .int .i64 f325_.gNum, .sl (List.map GTerm.c f325_.gKids)]]), [])), (7, (.v (.int .i64 (m324_.length : Int)), [])), (8, (.v (.int .i64 (wr.i64 (b326_ + 1))), []))], [], []⟩ _ (by kernel_rfl) .nil ?_
          exact ⟨_, Nat.lt_succ_self _, _, rfl, h329⟩
      · refine Wc.condF h330 (by kernel_rfl) ?_
        refine Wc.fix (st' := ⟨[], [], []⟩) [] [] [] [] (by kernel_rfl) ?_
        refine Wc.exit ?_
        obtain rfl := Option.some.inj h329
        exact ⟨rfl, rfl⟩
  · rintro st ⟨rfl, rfl⟩
    refine Wc.seq ?_
    refine Wc.region [] [] [4] [] [] ⟨[(4, (.v (.int .i64 (-1)), []))], [], []⟩ _ (by kernel_rfl) .nil ?_
    refine Wc.ret ?_
    obtain rfl := Option.some.inj h
    exact ⟨.inl rfl, by kernel_rfl, by kernel_rfl⟩

/-- impl.TermIn -/
def pimpl_TermIn (k : Nat) (m322_ : List GTerm) (f323_ : GTerm) : Option Int :=
  (pslices_IndexFunc___impl_Term_impl_Term__on1_pimpl_TermIn_1 k m322_ f323_).bind fun b324_ =>
  some b324_
theorem cimpl_TermIn {k : Nat} {m322_ : List GTerm} {f323_ : GTerm} {r : Int} (h : pimpl_TermIn k m322_ f323_ = some r) : FnO Try.prog 28 [.v (.sl (List.map GTerm.c m322_)) [], .v (.agg [.int .i64 f323_.gKind, .str f323_.gName, .int .i64 f323_.gNum, .sl (List.map GTerm.c f323_.gKids)]) []] (.v (.int .i64 r) []) [] := by
  refine FnO.of Try.func28 (rfl : Try.f28.body = some _) (Nat.le_of_ble_eq_true (by kernel_rfl)) (Nat.le_of_ble_eq_true (by kernel_rfl)) ?_
  intro w0 X0 Fin pv0 pb
  unfold pimpl_TermIn at h
  refine Wc.seq ?_
  refine Wc.region [] [] [0, 3] [3] [] ⟨[(0, (.v (.sl (List.map GTerm.c m322_)), [])), (3, (.ptr 3 0, []))], [(3, .cells [.int .i64 f323_.gKind, .str f323_.gName, .int .i64 f323_.gNum, .sl (List.map GTerm.c f323_.gKids)] [])], []⟩ _ (by kernel_rfl) .nil ?_
  refine Wc.seq ?_
  refine Wc.freeze 3 ⟨[(0, (.v (.sl (List.map GTerm.c m322_)), [])), (3, (.v (.vptr [.int .i64 f323_.gKind, .str f323_.gName, .int .i64 f323_.gNum, .sl (List.map GTerm.c f323_.gKids)]), []))], [], []⟩ (by kernel_rfl) ?_
  obtain ⟨b324_, h329, h⟩ := obind h
  refine Wc.region [{}, {}, { r := some (.v (.int .i64 b324_) []) }] [] [4] [] [] ⟨[(4, (.v (.int .i64 b324_), []))], [], []⟩ _ (by kernel_rfl) (.cons (cslices_IndexFunc___impl_Term_impl_Term__on1_pimpl_TermIn_1 h329) .nil) ?_
  refine Wc.ret ?_
  obtain rfl := Option.some.inj h
  exact ⟨.inl rfl, by kernel_rfl, by kernel_rfl⟩

def plaws_FnLists_L1 (k : Nat) (q327_ : (List GTerm)) : Nat → Int → Int → Option (Out Bool Int)
  | 0, _, _ => none
  | m + 1, b329_, b330_ =>
    if (decide (b330_ < (q327_.length : Int))) = true then
      (at' q327_ b330_).bind fun f332_ =>
      (pspec_SizeOf k f332_).bind fun b333_ =>
      plaws_FnLists_L1 k q327_ m (wr.i64 ((wr.i64 (b329_ + 1)) + b333_)) (wr.i64 (b330_ + 1))
    else
      some (.done b329_)
/-- laws.FnLists -/
def plaws_FnLists (k : Nat) (a325_ : List Int) : Option Bool :=
  (plaws_big k a325_).bind fun g326_ =>
  if g326_ = true then
    some true
  else
    (pspec_DrawTermList k a325_).bind fun q327_ =>
    (pimpl_ListTerm k q327_).bind fun f328_ =>
    (plaws_FnLists_L1 k q327_ k 1 0).bind fun out1 => match out1 with
    | .ret r => some r
    | .done b331_ =>
      (pimpl_ItemsOf k f328_).bind fun p334_ =>
      (pimpl_Backward k f328_).bind fun r335_ =>
      (pimpl_Backward k r335_.1).bind fun r336_ =>
      (pimpl_JoinedLists k f328_ r335_.1).bind fun r337_ =>
      (pimpl_ItemsOf k r337_.1).bind fun p338_ =>
      if (decide (b331_ > 150)) = true then
        (pspec_ListTerm k q327_).bind fun f339_ =>
        (pspec_SameTerm k f328_ f339_).bind fun g340_ =>
        some g340_
      else
        if p334_.2 = true then
          (plaws_sameTerms k p334_.1 q327_).bind fun g341_ =>
          if g341_ = true then
            if r335_.2 = true then
              if r336_.2 = true then
                (pspec_SameTerm k r336_.1 f328_).bind fun g342_ =>
                if g342_ = true then
                  if r337_.2 = true then
                    if p338_.2 = true then
                      if ((p338_.1.length : Int) == (wr.i64 (2 * (q327_.length : Int)))) = true then
                        if ((q327_.length : Int) == 0) = true then
                          some true
                        else
                          (at' q327_ (wr.i64 ((q327_.length : Int) - 1))).bind fun f343_ =>
                          (pimpl_TermIn k q327_ f343_).bind fun b344_ =>
                          some (decide (b344_ ≥ 0))
                      else
                        some false
                    else
                      some false
                  else
                    some false
                else
                  some false
              else
                some false
            else
              some false
          else
            some false
        else
          some false
set_option maxHeartbeats 4000000 in
theorem claws_FnLists {k : Nat} {a325_ : List Int} {r : Bool} (h : plaws_FnLists k a325_ = some r) : FnO Try.prog 4 [.v (.sl (List.map cI.u8 a325_)) []] (.v (.bool r) []) [] := by
  refine FnO.of Try.func4 (rfl : Try.f4.body = some _) (Nat.le_of_ble_eq_true (by kernel_rfl)) (Nat.le_of_ble_eq_true (by kernel_rfl)) ?_
  intro w0 X0 Fin pv0 pb
  unfold plaws_FnLists at h
  refine Wc.seq ?_
  refine Wc.region [] [] [0] [] [] ⟨[(0, (.v (.sl (List.map cI.u8 a325_)), []))], [], []⟩ _ (by kernel_rfl) .nil ?_
  refine Wc.seq ?_
  refine Wc.seq ?_
  obtain ⟨g326_, h330, h⟩ := obind h
  refine Wc.region [{}, { r := some (.v (.bool g326_) []) }] [] [0, 18] [] [] ⟨[(0, (.v (.sl (List.map cI.u8 a325_)), [])), (18, (.v (.bool g326_), []))], [], []⟩ _ (by kernel_rfl) (.cons (claws_big h330) .nil) ?_
  rcases oif h with ⟨h331, h⟩ | ⟨h331, h⟩
  · refine Wc.condT h331 (by kernel_rfl) ?_
    refine Wc.seq ?_
    refine Wc.region [] [] [2] [] [] ⟨[(2, (.v (.bool true), []))], [], []⟩ _ (by kernel_rfl) .nil ?_
    refine Wc.ret ?_
    obtain rfl := Option.some.inj h
    exact ⟨.inl rfl, by kernel_rfl, by kernel_rfl⟩
  · refine Wc.condF h331 (by kernel_rfl) ?_
    refine Wc.fix (st' := ⟨[(0, (.v (.sl (List.map cI.u8 a325_)), []))], [], []⟩) [] [0] [] [] (by kernel_rfl) ?_
    refine Wc.skip ?_
    refine Wc.seq ?_
    obtain ⟨q327_, h332, h⟩ := obind h
    refine Wc.region [{}, { r := some (.v (.sl (List.map GTerm.c q327_)) []) }] [] [3] [] [] ⟨[(3, (.v (.sl (List.map GTerm.c q327_)), []))], [], []⟩ _ (by kernel_rfl) (.cons (cspec_DrawTermList h332) .nil) ?_
    refine Wc.seq ?_
    obtain ⟨f328_, h333, h⟩ := obind h
    refine Wc.region [{}, { r := some (.v (.agg [.int .i64 f328_.gKind, .str f328_.gName, .int .i64 f328_.gNum, .sl (List.map GTerm.c f328_.gKids)]) []) }] [] [3, 4] [4] [] ⟨[(3, (.v (.sl (List.map GTerm.c q327_)), [])), (4, (.ptr 4 0, []))], [(4, .cells [.int .i64 f328_.gKind, .str f328_.gName, .int .i64 f328_.gNum, .sl (List.map GTerm.c f328_.gKids)] [])], []⟩ _ (by kernel_rfl) (.cons (cimpl_ListTerm h333) .nil) ?_
    refine Wc.seq ?_
    refine Wc.region [] [] [3, 4, 5] [4] [] ⟨[(3, (.v (.sl (List.map GTerm.c q327_)), [])), (4, (.ptr 4 0, [])), (5, (.v (.int .i64 1), []))], [(4, .cells [.int .i64 f328_.gKind, .str f328_.gName, .int .i64 f328_.gNum, .sl (List.map GTerm.c f328_.gKids)] [])], []⟩ _ (by kernel_rfl) .nil ?_
    refine Wc.seq ?_
    refine Wc.seq ?_
    refine Wc.region [] [] [3, 4, 5, 6] [4] [] ⟨[(3, (.v (.sl (List.map GTerm.c q327_)), [])), (4, (.ptr 4 0, [])), (5, (.v (.int .i64 1), [])), (6, (.v (.int .i64 0), []))], [(4, .cells [.int .i64 f328_.gKind, .str f328_.gName, .int .i64 f328_.gNum, .sl (List.map GTerm.c f328_.gKids)] [])], []⟩ _ (by kernel_rfl) .nil ?_
    obtain ⟨out1, h334, h⟩ := obind h
    refine Wc.lastJ (fun st => ∃ (b331_ : Int), out1 = .done b331_ ∧ st = ⟨[(3, (.v (.sl (List.map GTerm.c q327_)), [])), (4, (.ptr 4 0, [])), (5, (.v (.int .i64 b331_), []))], [(4, .cells [.int .i64 f328_.gKind, .str f328_.gName, .int .i64 f328_.gNum, .sl (List.map GTerm.c f328_.gKids)] [])], []⟩) ?_ ?_
    · refine Wc.block ?_
      refine Wc.loop (fun m st => ∃ (b329_ : Int) (b330_ : Int), st = ⟨[(3, (.v (.sl (List.map GTerm.c q327_)), [])), (4, (.ptr 4 0, [])), (5, (.v (.int .i64 b329_), [])), (6, (.v (.int .i64 b330_), []))], [(4, .cells [.int .i64 f328_.gKind, .str f328_.gName, .int .i64 f328_.gNum, .sl (List.map GTerm.c f328_.gKids)] [])], []⟩ ∧ plaws_FnLists_L1 k q327_ m b329_ b330_ = some out1) ?_ k ⟨_, _, rfl, h334⟩
      rintro m st ⟨b329_, b330_, rfl, h334⟩
      cases m with
      | zero => exact (onone h334).elim
      | succ m =>
        refine Wc.seq ?_
        refine Wc.seq ?_
        refine Wc.region [{}, {}, { v := some (.int .i64 (q327_.length : Int)) }] [] [3, 4, 5, 6, 26] [4] [] ⟨[(3, (.v (.sl (List.map GTerm.c q327_)), [])), (4, (.ptr 4 0, [])), (5, (.v (.int .i64 b329_), [])), (6, (.v (.int .i64 b330_), [])), (26, (.v (.bool (decide (b330_ < (q327_.length : Int)))), []))], [(4, .cells [.int .i64 f328_.gKind, .str f328_.gName, .int .i64 f328_.gNum, .sl (List.map GTerm.c f328_.gKids)] [])], []⟩ _ (by kernel_rfl) (.cons (len_obl GTerm.c q327_) .nil) ?_
        rcases oif h334 with ⟨h335, h334⟩ | ⟨h335, h334⟩
        · refine Wc.condT h335 (by kernel_rfl) ?_
          refine Wc.fix (st' := ⟨[(3, (.v (.sl (List.map GTerm.c q327_)), [])), (4, (.ptr 4 0, [])), (5, (.v (.int .i64 b329_), [])), (6, (.v (.int .i64 b330_), []))], [(4, .cells [.int .i64 f328_.gKind, .str f328_.gName, .int .i64 f328_.gNum, .sl (List.map GTerm.c f328_.gKids)] [])], []⟩) [] [3, 4, 5, 6] [4] [] (by kernel_rfl) ?_
          refine Wc.skip ?_
          refine Wc.seq ?_
          refine Wc.block ?_
          obtain ⟨f332_, h336, h334⟩ := obind h334
          obtain ⟨b333_, h337, h334⟩ := obind h334
          refine Wc.region [{}, {}, {}, {}, { v := some (.vptr [.int .i64 f332_.gKind, .str f332_.gName, .int .i64 f332_.gNum, .sl (List.map GTerm.c f332_.gKids)]) }, {}, { r := some (.v (.int .i64 b333_) []) }] [] [3, 4, 5, 6] [4] [] ⟨[(3, (.v (.sl (List.map GTerm.c q327_)), [])), (4, (.ptr 4 0, [])), (5, (.v (.int .i64 (wr.i64 ((wr.i64 (b329_ + 1)) + b333_))), [])), (6, (.v (.int .i64 b330_), []))], [(4, .cells [.int .i64 f328_.gKind, .str f328_.gName, .int .i64 f328_.gNum, .sl (List.map GTerm.c f328_.gKids)] [])], []⟩ _ (by kernel_rfl) (.cons (at_obl (c := GTerm.c) (GTerm.c_eq f332_) GTerm.c_len h336) (.cons (len_ok 4 [.int .i64 f332_.gKind, .str f332_.gName, .int .i64 f332_.gNum, .sl (List.map GTerm.c f332_.gKids)]) (.cons (cspec_SizeOf h337) .nil))) ?_
          refine Wc.region [] [] [3, 4, 5, 6] [4] [] ⟨[(3, (.v (.sl (List.map GTerm.c q327_)), [])), (4, (.ptr 4 0, [])), (5, (.v (.int .i64 (wr.i64 ((wr.i64 (b329_ + 1)) + b333_))), [])), (6, (.v (.int .i64 (wr.i64 (b330_ + 1))), []))], [(4, .cells [.int .i64 f328_.gKind, .str f328_.gName, .int .i64 f328_.gNum, .sl (List.map GTerm.c f328_.gKids)] [])], []⟩ _ (by kernel_rfl) .nil ?_
          exact ⟨_, Nat.lt_succ_self _, _, _, rfl, h334⟩
        · refine Wc.condF h335 (by kernel_rfl) ?_
          refine Wc.fix (st' := ⟨[(3, (.v (.sl (List.map GTerm.c q327_)), [])), (4, (.ptr 4 0, [])), (5, (.v (.int .i64 b329_), []))], [(4, .cells [.int .i64 f328_.gKind, .str f328_.gName, .int .i64 f328_.gNum, .sl (List.map GTerm.c f328_.gKids)] [])], []⟩) [] [3, 4, 5] [4] [] (by kernel_rfl) ?_
          refine Wc.exit ?_
          obtain rfl := Option.some.inj h334
          exact ⟨_, rfl, rfl⟩
    · rintro st ⟨b331_, rfl, rfl⟩
      refine Wc.seq ?_
      obtain ⟨p334_, h338, h⟩ := obind h
      refine Wc.region [{}, { r := some (.v (.tup [.sl (List.map GTerm.c p334_.1), .bool p334_.2]) [(0, .app 41)]) }, { tk := [39] }, { tk := [37] }, {}, { tk := [40] }] [] [3, 4, 5, 7, 8] [4] [] ⟨[(3, (.v (.sl (List.map GTerm.c q327_)), [])), (4, (.ptr 4 0, [])), (5, (.v (.int .i64 b331_), [])), (7, (.v (.sl (List.map GTerm.c p334_.1)), [(0, .app 41)])), (8, (.v (.bool p334_.2), []))], [(4, .cells [.int .i64 f328_.gKind, .str f328_.gName, .int .i64 f328_.gNum, .sl (List.map GTerm.c f328_.gKids)] [])], []⟩ _ (by kernel_rfl) (.cons (cimpl_ItemsOf h338) .nil) ?_
      refine Wc.seq ?_
      obtain ⟨r335_, h339, h⟩ := obind h
      refine Wc.region [{}, { r := some (.v (.tup [.agg [.int .i64 r335_.1.gKind, .str r335_.1.gName, .int .i64 r335_.1.gNum, .sl (List.map GTerm.c r335_.1.gKids)], .bool r335_.2]) []) }] [] [3, 4, 5, 7, 8, 9, 10] [4, 9] [] ⟨[(3, (.v (.sl (List.map GTerm.c q327_)), [])), (4, (.ptr 4 0, [])), (5, (.v (.int .i64 b331_), [])), (7, (.v (.sl (List.map GTerm.c p334_.1)), [(0, .app 41)])), (8, (.v (.bool p334_.2), [])), (9, (.ptr 9 0, [])), (10, (.v (.bool r335_.2), []))], [(4, .cells [.int .i64 f328_.gKind, .str f328_.gName, .int .i64 f328_.gNum, .sl (List.map GTerm.c f328_.gKids)] []), (9, .cells [.int .i64 r335_.1.gKind, .str r335_.1.gName, .int .i64 r335_.1.gNum, .sl (List.map GTerm.c r335_.1.gKids)] [])], []⟩ _ (by kernel_rfl) (.cons (cimpl_Backward h339) .nil) ?_
      refine Wc.seq ?_
      obtain ⟨r336_, h340, h⟩ := obind h
      refine Wc.region [{}, { r := some (.v (.tup [.agg [.int .i64 r336_.1.gKind, .str r336_.1.gName, .int .i64 r336_.1.gNum, .sl (List.map GTerm.c r336_.1.gKids)], .bool r336_.2]) []) }] [] [3, 4, 5, 7, 8, 9, 10, 11, 12] [4, 9, 11] [] ⟨[(3, (.v (.sl (List.map GTerm.c q327_)), [])), (4, (.ptr 4 0, [])), (5, (.v (.int .i64 b331_), [])), (7, (.v (.sl (List.map GTerm.c p334_.1)), [(0, .app 41)])), (8, (.v (.bool p334_.2), [])), (9, (.ptr 9 0, [])), (10, (.v (.bool r335_.2), [])), (11, (.ptr 11 0, [])), (12, (.v (.bool r336_.2), []))], [(4, .cells [.int .i64 f328_.gKind, .str f328_.gName, .int .i64 f328_.gNum, .sl (List.map GTerm.c f328_.gKids)] []), (9, .cells [.int .i64 r335_.1.gKind, .str r335_.1.gName, .int .i64 r335_.1.gNum, .sl (List.map GTerm.c r335_.1.gKids)] []), (11, .cells [.int .i64 r336_.1.gKind, .str r336_.1.gName, .int .i64 r336_.1.gNum, .sl (List.map GTerm.c r336_.1.gKids)] [])], []⟩ _ (by kernel_rfl) (.cons (cimpl_Backward h340) .nil) ?_
      refine Wc.seq ?_
      obtain ⟨r337_, h341, h⟩ := obind h
      refine Wc.region [{}, {}, { r := some (.v (.tup [.agg [.int .i64 r337_.1.gKind, .str r337_.1.gName, .int .i64 r337_.1.gNum, .sl (List.map GTerm.c r337_.1.gKids)], .bool r337_.2]) []) }] [] [3, 4, 5, 7, 8, 10, 11, 12, 13, 14] [4, 11, 13] [] ⟨[(3, (.v (.sl (List.map GTerm.c q327_)), [])), (4, (.ptr 4 0, [])), (5, (.v (.int .i64 b331_), [])), (7, (.v (.sl (List.map GTerm.c p334_.1)), [(0, .app 41)])), (8, (.v (.bool p334_.2), [])), (10, (.v (.bool r335_.2), [])), (11, (.ptr 11 0, [])), (12, (.v (.bool r336_.2), [])), (13, (.ptr 13 0, [])), (14, (.v (.bool r337_.2), []))], [(4, .cells [.int .i64 f328_.gKind, .str f328_.gName, .int .i64 f328_.gNum, .sl (List.map GTerm.c f328_.gKids)] []), (11, .cells [.int .i64 r336_.1.gKind, .str r336_.1.gName, .int .i64 r336_.1.gNum, .sl (List.map GTerm.c r336_.1.gKids)] []), (13, .cells [.int .i64 r337_.1.gKind, .str r337_.1.gName, .int .i64 r337_.1.gNum, .sl (List.map GTerm.c r337_.1.gKids)] [])], []⟩ _ (by kernel_rfl) (.cons (cimpl_JoinedLists h341) .nil) ?_
      refine Wc.seq ?_
      obtain ⟨p338_, h342, h⟩ := obind h
      refine Wc.region [{}, { r := some (.v (.tup [.sl (List.map GTerm.c p338_.1), .bool p338_.2]) [(0, .app 41)]) }, { tk := [60] }, { tk := [58] }, {}, { tk := [61] }] [] [3, 4, 5, 7, 8, 10, 11, 12, 14, 15, 16] [4, 11] [] ⟨[(3, (.v (.sl (List.map GTerm.c q327_)), [])), (4, (.ptr 4 0, [])), (5, (.v (.int .i64 b331_), [])), (7, (.v (.sl (List.map GTerm.c p334_.1)), [(0, .app 41)])), (8, (.v (.bool p334_.2), [])), (10, (.v (.bool r335_.2), [])), (11, (.ptr 11 0, [])), (12, (.v (.bool r336_.2), [])), (14, (.v (.bool r337_.2), [])), (15, (.v (.sl (List.map GTerm.c p338_.1)), [(0, .app 41)])), (16, (.v (.bool p338_.2), []))], [(4, .cells [.int .i64 f328_.gKind, .str f328_.gName, .int .i64 f328_.gNum, .sl (List.map GTerm.c f328_.gKids)] []), (11, .cells [.int .i64 r336_.1.gKind, .str r336_.1.gName, .int .i64 r336_.1.gNum, .sl (List.map GTerm.c r336_.1.gKids)] [])], []⟩ _ (by kernel_rfl) (.cons (cimpl_ItemsOf h342) .nil) ?_
      refine Wc.seq ?_
      refine Wc.seq ?_
      refine Wc.region [] [] [3, 4, 7, 8, 10, 11, 12, 14, 15, 16, 64] [4, 11] [] ⟨[(3, (.v (.sl (List.map GTerm.c q327_)), [])), (4, (.ptr 4 0, [])), (7, (.v (.sl (List.map GTerm.c p334_.1)), [(0, .app 41)])), (8, (.v (.bool p334_.2), [])), (10, (.v (.bool r335_.2), [])), (11, (.ptr 11 0, [])), (12, (.v (.bool r336_.2), [])), (14, (.v (.bool r337_.2), [])), (15, (.v (.sl (List.map GTerm.c p338_.1)), [(0, .app 41)])), (16, (.v (.bool p338_.2), [])), (64, (.v (.bool (decide (b331_ > 150))), []))], [(4, .cells [.int .i64 f328_.gKind, .str f328_.gName, .int .i64 f328_.gNum, .sl (List.map GTerm.c f328_.gKids)] []), (11, .cells [.int .i64 r336_.1.gKind, .str r336_.1.gName, .int .i64 r336_.1.gNum, .sl (List.map GTerm.c r336_.1.gKids)] [])], []⟩ _ (by kernel_rfl) .nil ?_
      rcases oif h with ⟨h343, h⟩ | ⟨h343, h⟩
      · refine Wc.condT h343 (by kernel_rfl) ?_
        refine Wc.seq ?_
        obtain ⟨f339_, h344, h⟩ := obind h
        obtain ⟨g340_, h345, h⟩ := obind h
        refine Wc.draw hmix [{}, {}, { r := some (.v (.agg [.int .i64 f339_.gKind, .str f339_.gName, .int .i64 f339_.gNum, .sl (List.map GTerm.c f339_.gKids)]) [(3, .app 41)]) }, { r := some (.v (.bool g340_) []) }] [] [2] [] [] ⟨[(2, (.v (.bool g340_), []))], [], []⟩ _ (by kernel_rfl) (fun X => by kernel_rfl) (.cons (cspec_ListTerm h344) (.cons (cspec_SameTerm h345) .nil)) ?_
        refine Wc.ret ?_
        obtain rfl := Option.some.inj h
        exact ⟨.inl rfl, by kernel_rfl, by kernel_rfl⟩
      · refine Wc.condF h343 (by kernel_rfl) ?_
        refine Wc.fix (st' := ⟨[(3, (.v (.sl (List.map GTerm.c q327_)), [])), (4, (.ptr 4 0, [])), (7, (.v (.sl (List.map GTerm.c p334_.1)), [(0, .app 41)])), (8, (.v (.bool p334_.2), [])), (10, (.v (.bool r335_.2), [])), (11, (.ptr 11 0, [])), (12, (.v (.bool r336_.2), [])), (14, (.v (.bool r337_.2), [])), (15, (.v (.sl (List.map GTerm.c p338_.1)), [(0, .app 41)])), (16, (.v (.bool p338_.2), []))], [(4, .cells [.int .i64 f328_.gKind, .str f328_.gName, .int .i64 f328_.gNum, .sl (List.map GTerm.c f328_.gKids)] []), (11, .cells [.int .i64 r336_.1.gKind, .str r336_.1.gName, .int .i64 r336_.1.gNum, .sl (List.map GTerm.c r336_.1.gKids)] [])], []⟩) [] [3, 4, 7, 8, 10, 11, 12, 14, 15, 16] [4, 11] [] (by kernel_rfl) ?_
        refine Wc.skip ?_
        refine Wc.seq ?_
        rcases oif h with ⟨h346, h⟩ | ⟨h346, h⟩
        · obtain ⟨g341_, h347, h⟩ := obind h
          rcases oif h with ⟨h348, h⟩ | ⟨h348, h⟩
          · rcases oif h with ⟨h349, h⟩ | ⟨h349, h⟩
            · rcases oif h with ⟨h350, h⟩ | ⟨h350, h⟩
              · obtain ⟨g342_, h351, h⟩ := obind h
                rcases oif h with ⟨h352, h⟩ | ⟨h352, h⟩
                · rcases oif h with ⟨h353, h⟩ | ⟨h353, h⟩
                  · rcases oif h with ⟨h354, h⟩ | ⟨h354, h⟩
                    · rcases oif h with ⟨h355, h⟩ | ⟨h355, h⟩
                      · rcases oif h with ⟨h356, h⟩ | ⟨h356, h⟩
                        · refine Wc.region [{}, { re := some (.bool true) }, { tk := [7] }, {}, { r := some (.v (.bool g341_) []) }, {}, { re := some (.bool true) }, {}, {}, { re := some (.bool true) }, {}, {}, { re := some (.bool true) }, {}, {}, { r := some (.v (.bool g342_) []) }, {}, { re := some (.bool true) }, {}, {}, { re := some (.bool true) }, {}, {}, { re := some (.bool true) }, { tk := [15] }, { v := some (.int .i64 (p338_.1.length : Int)) }, {}, { v := some (.int .i64 (q327_.length : Int)) }, {}, {}, {}, { re := some (.bool true) }, {}, { v := some (.int .i64 (q327_.length : Int)) }, {}, { re := some (.bool true) }] [] [2] [] [] ⟨[(2, (.v (.bool true), []))], [], []⟩ _ (by kernel_rfl) (.cons (congrArg AV.bool h346) (.cons (claws_sameTerms h347) (.cons (congrArg AV.bool h348) (.cons (congrArg AV.bool h349) (.cons (congrArg AV.bool h350) (.cons (cspec_SameTerm h351) (.cons (congrArg AV.bool h352) (.cons (congrArg AV.bool h353) (.cons (congrArg AV.bool h354) (.cons (len_obl GTerm.c p338_.1) (.cons (len_obl GTerm.c q327_) (.cons (congrArg AV.bool h355) (.cons (len_obl GTerm.c q327_) (.cons (congrArg AV.bool h356) .nil)))))))))))))) ?_
                          refine Wc.ret ?_
                          obtain rfl := Option.some.inj h
                          exact ⟨.inl rfl, by kernel_rfl, by kernel_rfl⟩
                        · obtain ⟨f343_, h357, h⟩ := obind h
                          obtain ⟨b344_, h358, h⟩ := obind h
                          refine Wc.region [{}, { re := some (.bool true) }, { tk := [7] }, {}, { r := some (.v (.bool g341_) []) }, {}, { re := some (.bool true) }, {}, {}, { re := some (.bool true) }, {}, {}, { re := some (.bool true) }, {}, {}, { r := some (.v (.bool g342_) []) }, {}, { re := some (.bool true) }, {}, {}, { re := some (.bool true) }, {}, {}, { re := some (.bool true) }, { tk := [15] }, { v := some (.int .i64 (p338_.1.length : Int)) }, {}, { v := some (.int .i64 (q327_.length : Int)) }, {}, {}, {}, { re := some (.bool true) }, {}, { v := some (.int .i64 (q327_.length : Int)) }, {}, { re := some (.bool false) }, {}, {}, {}, { v := some (.int .i64 (q327_.length : Int)) }, {}, { v := some (.vptr [.int .i64 f343_.gKind, .str f343_.gName, .int .i64 f343_.gNum, .sl (List.map GTerm.c f343_.gKids)]) }, {}, { r := some (.v (.int .i64 b344_) []) }] [] [2] [] [] ⟨[(2, (.v (.bool (decide (b344_ ≥ 0))), []))], [], []⟩ _ (by kernel_rfl) (.cons (congrArg AV.bool h346) (.cons (claws_sameTerms h347) (.cons (congrArg AV.bool h348) (.cons (congrArg AV.bool h349) (.cons (congrArg AV.bool h350) (.cons (cspec_SameTerm h351) (.cons (congrArg AV.bool h352) (.cons (congrArg AV.bool h353) (.cons (congrArg AV.bool h354) (.cons (len_obl GTerm.c p338_.1) (.cons (len_obl GTerm.c q327_) (.cons (congrArg AV.bool h355) (.cons (len_obl GTerm.c q327_) (.cons (congrArg AV.bool h356) (.cons (len_obl GTerm.c q327_) (.cons (at_obl (c := GTerm.c) (GTerm.c_eq f343_) GTerm.c_len h357) (.cons (len_ok 4 [.int .i64 f343_.gKind, .str f343_.gName, .int .i64 f343_.gNum, .sl (List.map GTerm.c f343_.gKids)]) (.cons (cimpl_TermIn h358) .nil)))))))))))))))))) ?_
                          refine Wc.ret ?_
                          obtain rfl := Option.some.inj h
                          exact ⟨.inl rfl, by kernel_rfl, by kernel_rfl⟩
                      · refine Wc.region [{}, { re := some (.bool true) }, { tk := [7] }, {}, { r := some (.v (.bool g341_) []) }, {}, { re := some (.bool true) }, {}, {}, { re := some (.bool true) }, {}, {}, { re := some (.bool true) }, {}, {}, { r := some (.v (.bool g342_) []) }, {}, { re := some (.bool true) }, {}, {}, { re := some (.bool true) }, {}, {}, { re := some (.bool true) }, { tk := [15] }, { v := some (.int .i64 (p338_.1.length : Int)) }, {}, { v := some (.int .i64 (q327_.length : Int)) }, {}, {}, {}, { re := some (.bool false) }] [] [2] [] [] ⟨[(2, (.v (.bool false), []))], [], []⟩ _ (by kernel_rfl) (.cons (congrArg AV.bool h346) (.cons (claws_sameTerms h347) (.cons (congrArg AV.bool h348) (.cons (congrArg AV.bool h349) (.cons (congrArg AV.bool h350) (.cons (cspec_SameTerm h351) (.cons (congrArg AV.bool h352) (.cons (congrArg AV.bool h353) (.cons (congrArg AV.bool h354) (.cons (len_obl GTerm.c p338_.1) (.cons (len_obl GTerm.c q327_) (.cons (congrArg AV.bool h355) .nil)))))))))))) ?_
                        refine Wc.ret ?_
                        obtain rfl := Option.some.inj h
                        exact ⟨.inl rfl, by kernel_rfl, by kernel_rfl⟩
                    · refine Wc.region [{}, { re := some (.bool true) }, { tk := [7] }, {}, { r := some (.v (.bool g341_) []) }, {}, { re := some (.bool true) }, {}, {}, { re := some (.bool true) }, {}, {}, { re := some (.bool true) }, {}, {}, { r := some (.v (.bool g342_) []) }, {}, { re := some (.bool true) }, {}, {}, { re := some (.bool true) }, {}, {}, { re := some (.bool false) }] [] [2] [] [] ⟨[(2, (.v (.bool false), []))], [], []⟩ _ (by kernel_rfl) (.cons (congrArg AV.bool h346) (.cons (claws_sameTerms h347) (.cons (congrArg AV.bool h348) (.cons (congrArg AV.bool h349) (.cons (congrArg AV.bool h350) (.cons (cspec_SameTerm h351) (.cons (congrArg AV.bool h352) (.cons (congrArg AV.bool h353) (.cons (congrArg AV.bool h354) .nil))))))))) ?_
                      refine Wc.ret ?_
                      obtain rfl := Option.some.inj h
                      exact ⟨.inl rfl, by kernel_rfl, by kernel_rfl⟩
                  · refine Wc.region [{}, { re := some (.bool true) }, { tk := [7] }, {}, { r := some (.v (.bool g341_) []) }, {}, { re := some (.bool true) }, {}, {}, { re := some (.bool true) }, {}, {}, { re := some (.bool true) }, {}, {}, { r := some (.v (.bool g342_) []) }, {}, { re := some (.bool true) }, {}, {}, { re := some (.bool false) }] [] [2] [] [] ⟨[(2, (.v (.bool false), []))], [], []⟩ _ (by kernel_rfl) (.cons (congrArg AV.bool h346) (.cons (claws_sameTerms h347) (.cons (congrArg AV.bool h348) (.cons (congrArg AV.bool h349) (.cons (congrArg AV.bool h350) (.cons (cspec_SameTerm h351) (.cons (congrArg AV.bool h352) (.cons (congrArg AV.bool h353) .nil)))))))) ?_
                    refine Wc.ret ?_
                    obtain rfl := Option.some.inj h
                    exact ⟨.inl rfl, by kernel_rfl, by kernel_rfl⟩
                · refine Wc.region [{}, { re := some (.bool true) }, { tk := [7] }, {}, { r := some (.v (.bool g341_) []) }, {}, { re := some (.bool true) }, {}, {}, { re := some (.bool true) }, {}, {}, { re := some (.bool true) }, {}, {}, { r := some (.v (.bool g342_) []) }, {}, { re := some (.bool false) }] [] [2] [] [] ⟨[(2, (.v (.bool false), []))], [], []⟩ _ (by kernel_rfl) (.cons (congrArg AV.bool h346) (.cons (claws_sameTerms h347) (.cons (congrArg AV.bool h348) (.cons (congrArg AV.bool h349) (.cons (congrArg AV.bool h350) (.cons (cspec_SameTerm h351) (.cons (congrArg AV.bool h352) .nil))))))) ?_
                  refine Wc.ret ?_
                  obtain rfl := Option.some.inj h
                  exact ⟨.inl rfl, by kernel_rfl, by kernel_rfl⟩
              · refine Wc.region [{}, { re := some (.bool true) }, { tk := [7] }, {}, { r := some (.v (.bool g341_) []) }, {}, { re := some (.bool true) }, {}, {}, { re := some (.bool true) }, {}, {}, { re := some (.bool false) }] [] [2] [] [] ⟨[(2, (.v (.bool false), []))], [], []⟩ _ (by kernel_rfl) (.cons (congrArg AV.bool h346) (.cons (claws_sameTerms h347) (.cons (congrArg AV.bool h348) (.cons (congrArg AV.bool h349) (.cons (congrArg AV.bool h350) .nil))))) ?_
                refine Wc.ret ?_
                obtain rfl := Option.some.inj h
                exact ⟨.inl rfl, by kernel_rfl, by kernel_rfl⟩
            · refine Wc.region [{}, { re := some (.bool true) }, { tk := [7] }, {}, { r := some (.v (.bool g341_) []) }, {}, { re := some (.bool true) }, {}, {}, { re := some (.bool false) }] [] [2] [] [] ⟨[(2, (.v (.bool false), []))], [], []⟩ _ (by kernel_rfl) (.cons (congrArg AV.bool h346) (.cons (claws_sameTerms h347) (.cons (congrArg AV.bool h348) (.cons (congrArg AV.bool h349) .nil)))) ?_
              refine Wc.ret ?_
              obtain rfl := Option.some.inj h
              exact ⟨.inl rfl, by kernel_rfl, by kernel_rfl⟩
          · refine Wc.region [{}, { re := some (.bool true) }, { tk := [7] }, {}, { r := some (.v (.bool g341_) []) }, {}, { re := some (.bool false) }] [] [2] [] [] ⟨[(2, (.v (.bool false), []))], [], []⟩ _ (by kernel_rfl) (.cons (congrArg AV.bool h346) (.cons (claws_sameTerms h347) (.cons (congrArg AV.bool h348) .nil))) ?_
            refine Wc.ret ?_
            obtain rfl := Option.some.inj h
            exact ⟨.inl rfl, by kernel_rfl, by kernel_rfl⟩
        · refine Wc.region [{}, { re := some (.bool false) }] [] [2] [] [] ⟨[(2, (.v (.bool false), []))], [], []⟩ _ (by kernel_rfl) (.cons (congrArg AV.bool h346) .nil) ?_
          refine Wc.ret ?_
          obtain rfl := Option.some.inj h
          exact ⟨.inl rfl, by kernel_rfl, by kernel_rfl⟩
end Go.Proofs.Ythemaodhckmnkaa

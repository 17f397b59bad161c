/- What the functions do, part 2. -/
import Derived.Test.YtjgagbajgdmocaaFna
set_option linter.unusedVariables false
set_option linter.unusedSimpArgs false
namespace Go.Proofs.Ytjgagbajgdmocaa
open Go.RowKit Go.Bv
/-- laws.FnExactItemsOf -/
def plaws_FnExactItemsOf (k : Nat) (c194_ : GTerm) : Option Bool :=
  (plaws_szTerm k c194_ 1048576).bind fun b195_ =>
  if (decide (b195_ < 0)) = true then
    some true
  else
    (plaws_toTerm k c194_).bind fun c196_ =>
    (pspec_ItemsOf k c196_).bind fun i197_ =>
    (plaws_toTerm_d k c194_).bind fun c198_ =>
    (pimpl_ItemsOf_d k c198_).bind fun i199_ =>
    (plaws_eqTermS k i199_.1 i197_.1).bind fun d200_ =>
    if (!d200_) = true then
      some false
    else
      if (!(i199_.2 == i197_.2)) = true then
        some false
      else
        (plaws_toTerm k c194_).bind fun c201_ =>
        (plaws_eqTerm k c198_ c201_).bind fun d202_ =>
        if (!d202_) = true then
          some false
        else
          (plaws_markTerm k c198_ 1).bind fun j203_ =>
          if (decide (j203_.2 < 0)) = true then
            some false
          else
            (plaws_eqTermS k i199_.1 i197_.1).bind fun d204_ =>
            if (!d204_) = true then
              some false
            else
              if (!(i199_.2 == i197_.2)) = true then
                some false
              else
                (plaws_markTermS k i199_.1 1).bind fun f205_ =>
                (plaws_heldTermS k f205_.1 1).bind fun b206_ =>
                if (decide (b206_ < 0)) = true then
                  some false
                else
                  if (b206_ != f205_.2) = true then
                    some false
                  else
                    (plaws_toTerm k c194_).bind fun c207_ =>
                    (pimpl_ItemsOf k c207_).bind fun i208_ =>
                    (plaws_eqTermS k i208_.1 i197_.1).bind fun d209_ =>
                    if (!d209_) = true then
                      some false
                    else
                      if (!(i208_.2 == i197_.2)) = true then
                        some false
                      else
                        (plaws_heldTermS k f205_.1 1).bind fun b210_ =>
                        if (decide (b210_ < 0)) = true then
                          some false
                        else
                          if (b210_ != f205_.2) = true then
                            some false
                          else
                            some true
theorem claws_FnExactItemsOf {k : Nat} {c194_ : GTerm} {r : Bool} (h : plaws_FnExactItemsOf k c194_ = some r) : FnO Try.prog 7 [.v (.agg [.int .i64 c194_.gKind, .str c194_.gName, .int .i64 c194_.gNum, .sl (List.map GTerm.c c194_.gKids)]) []] (.v (.bool r) []) [] := by
  refine FnO.of Try.func7 (rfl : Try.f7.body = some _) (Nat.le_of_ble_eq_true (by kernel_rfl)) (Nat.le_of_ble_eq_true (by kernel_rfl)) ?_
  intro w0 X0 Fin pv0 pb
  unfold plaws_FnExactItemsOf at h
  refine Wc.seq ?_
  refine Wc.region [] [] [1] [1] [] ⟨[(1, (.ptr 1 0, []))], [(1, .cells [.int .i64 c194_.gKind, .str c194_.gName, .int .i64 c194_.gNum, .sl (List.map GTerm.c c194_.gKids)] [])], []⟩ _ (by kernel_rfl) .nil ?_
  refine Wc.seq ?_
  refine Wc.region [] [] [1, 3] [1] [] ⟨[(1, (.ptr 1 0, [])), (3, (.v (.int .i64 1048576), []))], [(1, .cells [.int .i64 c194_.gKind, .str c194_.gName, .int .i64 c194_.gNum, .sl (List.map GTerm.c c194_.gKids)] [])], []⟩ _ (by kernel_rfl) .nil ?_
  refine Wc.seq ?_
  obtain ⟨b195_, h213, h⟩ := obind h
  refine Wc.region [{}, {}, { r := some (.v (.int .i64 b195_) []) }] [] [1, 3] [1] [] ⟨[(1, (.ptr 1 0, [])), (3, (.v (.int .i64 b195_), []))], [(1, .cells [.int .i64 c194_.gKind, .str c194_.gName, .int .i64 c194_.gNum, .sl (List.map GTerm.c c194_.gKids)] [])], []⟩ _ (by kernel_rfl) (.cons (claws_szTerm h213) .nil) ?_
  refine Wc.seq ?_
  refine Wc.seq ?_
  refine Wc.region [] [] [1, 18] [1] [] ⟨[(1, (.ptr 1 0, [])), (18, (.v (.bool (decide (b195_ < 0))), []))], [(1, .cells [.int .i64 c194_.gKind, .str c194_.gName, .int .i64 c194_.gNum, .sl (List.map GTerm.c c194_.gKids)] [])], []⟩ _ (by kernel_rfl) .nil ?_
  rcases oif h with ⟨h214, h⟩ | ⟨h214, h⟩
  · refine Wc.condT h214 (by kernel_rfl) ?_
    refine Wc.seq ?_
    refine Wc.region [] [] [2] [] [] ⟨[(2, (.v (.bool true), []))], [], []⟩ _ (by kernel_rfl) .nil ?_
    refine Wc.ret ?_
    obtain rfl := Option.some.inj h
    exact ⟨.inl rfl, by kernel_rfl, by kernel_rfl⟩
  · refine Wc.condF h214 (by kernel_rfl) ?_
    refine Wc.fix (st' := ⟨[(1, (.ptr 1 0, []))], [(1, .cells [.int .i64 c194_.gKind, .str c194_.gName, .int .i64 c194_.gNum, .sl (List.map GTerm.c c194_.gKids)] [])], []⟩) [] [1] [1] [] (by kernel_rfl) ?_
    refine Wc.skip ?_
    refine Wc.seq ?_
    obtain ⟨c196_, h215, h⟩ := obind h
    obtain ⟨i197_, h216, h⟩ := obind h
    refine Wc.region [{}, { r := some (.v (.agg [.int .i64 c196_.gKind, .str c196_.gName, .int .i64 c196_.gNum, .sl (List.map GTerm.c c196_.gKids)]) []) }, { r := some (.v (.tup [.sl (List.map GTerm.c i197_.1), .bool i197_.2]) [(0, .app 40)]) }, { tk := [22] }, { tk := [19] }, {}, { tk := [23] }] [] [1, 4, 5] [1] [] ⟨[(1, (.ptr 1 0, [])), (4, (.v (.sl (List.map GTerm.c i197_.1)), [(0, .app 40)])), (5, (.v (.bool i197_.2), []))], [(1, .cells [.int .i64 c194_.gKind, .str c194_.gName, .int .i64 c194_.gNum, .sl (List.map GTerm.c c194_.gKids)] [])], []⟩ _ (by kernel_rfl) (.cons (claws_toTerm h215) (.cons (cspec_ItemsOf h216) .nil)) ?_
    refine Wc.seq ?_
    obtain ⟨c198_, h217, h⟩ := obind h
    refine Wc.region [{}, { r := some (.v (.agg [.int .i64 c198_.gKind, .str c198_.gName, .int .i64 c198_.gNum, .slx]) [(3, .ex 40 true (List.map GTerm.c c198_.gKids))]) }, {}, { tk := [26] }] [] [1, 4, 5, 6] [1, 6] [] ⟨[(1, (.ptr 1 0, [])), (4, (.v (.sl (List.map GTerm.c i197_.1)), [(0, .app 40)])), (5, (.v (.bool i197_.2), [])), (6, (.ptr 6 0, []))], [(1, .cells [.int .i64 c194_.gKind, .str c194_.gName, .int .i64 c194_.gNum, .sl (List.map GTerm.c c194_.gKids)] []), (6, .cells [.int .i64 c198_.gKind, .str c198_.gName, .int .i64 c198_.gNum, .slx] [(3, .ex 40 true (List.map GTerm.c c198_.gKids))])], []⟩ _ (by kernel_rfl) (.cons (claws_toTerm_d h217) .nil) ?_
    refine Wc.seq ?_
    obtain ⟨i199_, h218, h⟩ := obind h
    refine Wc.region [{}, { r := some (.v (.tup [.slx, .bool i199_.2]) [(0, .ex 40 true (List.map GTerm.c i199_.1))]) }, { tk := [29] }, { tk := [27] }, {}, { tk := [30] }] [] [1, 4, 5, 6, 7, 8] [1, 6] [] ⟨[(1, (.ptr 1 0, [])), (4, (.v (.sl (List.map GTerm.c i197_.1)), [(0, .app 40)])), (5, (.v (.bool i197_.2), [])), (6, (.ptr 6 0, [])), (7, (.v (.slx), [(0, .ex 40 true (List.map GTerm.c i199_.1))])), (8, (.v (.bool i199_.2), []))], [(1, .cells [.int .i64 c194_.gKind, .str c194_.gName, .int .i64 c194_.gNum, .sl (List.map GTerm.c c194_.gKids)] []), (6, .cells [.int .i64 c198_.gKind, .str c198_.gName, .int .i64 c198_.gNum, .slx] [(3, .ex 40 true (List.map GTerm.c c198_.gKids))])], []⟩ _ (by kernel_rfl) (.cons (cimpl_ItemsOf_d h218) .nil) ?_
    refine Wc.seq ?_
    refine Wc.seq ?_
    obtain ⟨d200_, h219, h⟩ := obind h
    rcases oif h with ⟨h220, h⟩ | ⟨h220, h⟩
    · refine Wc.region [{}, {}, { r := some (.v (.bool d200_) []) }, {}, { re := some (.bool true) }] [] [1, 4, 5, 6, 7, 8, 40] [1, 6] [] ⟨[(1, (.ptr 1 0, [])), (4, (.v (.sl (List.map GTerm.c i197_.1)), [(0, .app 40)])), (5, (.v (.bool i197_.2), [])), (6, (.ptr 6 0, [])), (7, (.v (.slx), [(0, .ex 40 true (List.map GTerm.c i199_.1))])), (8, (.v (.bool i199_.2), [])), (40, (.v (.bool true), []))], [(1, .cells [.int .i64 c194_.gKind, .str c194_.gName, .int .i64 c194_.gNum, .sl (List.map GTerm.c c194_.gKids)] []), (6, .cells [.int .i64 c198_.gKind, .str c198_.gName, .int .i64 c198_.gNum, .slx] [(3, .ex 40 true (List.map GTerm.c c198_.gKids))])], []⟩ _ (by kernel_rfl) (.cons (claws_eqTermS h219) (.cons (congrArg AV.bool h220) .nil)) ?_
      refine Wc.condT rfl (by kernel_rfl) ?_
      refine Wc.seq ?_
      refine Wc.region [] [] [2] [] [] ⟨[(2, (.v (.bool false), []))], [], []⟩ _ (by kernel_rfl) .nil ?_
      refine Wc.ret ?_
      obtain rfl := Option.some.inj h
      exact ⟨.inl rfl, by kernel_rfl, by kernel_rfl⟩
    · refine Wc.region [{}, {}, { r := some (.v (.bool d200_) []) }, {}, { re := some (.bool false) }] [] [1, 4, 5, 6, 7, 8, 40] [1, 6] [] ⟨[(1, (.ptr 1 0, [])), (4, (.v (.sl (List.map GTerm.c i197_.1)), [(0, .app 40)])), (5, (.v (.bool i197_.2), [])), (6, (.ptr 6 0, [])), (7, (.v (.slx), [(0, .ex 40 true (List.map GTerm.c i199_.1))])), (8, (.v (.bool i199_.2), [])), (40, (.v (.bool (!(i199_.2 == i197_.2))), []))], [(1, .cells [.int .i64 c194_.gKind, .str c194_.gName, .int .i64 c194_.gNum, .sl (List.map GTerm.c c194_.gKids)] []), (6, .cells [.int .i64 c198_.gKind, .str c198_.gName, .int .i64 c198_.gNum, .slx] [(3, .ex 40 true (List.map GTerm.c c198_.gKids))])], []⟩ _ (by kernel_rfl) (.cons (claws_eqTermS h219) (.cons (congrArg AV.bool h220) .nil)) ?_
      rcases oif h with ⟨h221, h⟩ | ⟨h221, h⟩
      · refine Wc.condT h221 (by kernel_rfl) ?_
        refine Wc.seq ?_
        refine Wc.region [] [] [2] [] [] ⟨[(2, (.v (.bool false), []))], [], []⟩ _ (by kernel_rfl) .nil ?_
        refine Wc.ret ?_
        obtain rfl := Option.some.inj h
        exact ⟨.inl rfl, by kernel_rfl, by kernel_rfl⟩
      · refine Wc.condF h221 (by kernel_rfl) ?_
        refine Wc.fix (st' := ⟨[(1, (.ptr 1 0, [])), (4, (.v (.sl (List.map GTerm.c i197_.1)), [(0, .app 40)])), (5, (.v (.bool i197_.2), [])), (6, (.ptr 6 0, [])), (7, (.v (.slx), [(0, .ex 40 true (List.map GTerm.c i199_.1))])), (8, (.v (.bool i199_.2), []))], [(1, .cells [.int .i64 c194_.gKind, .str c194_.gName, .int .i64 c194_.gNum, .sl (List.map GTerm.c c194_.gKids)] []), (6, .cells [.int .i64 c198_.gKind, .str c198_.gName, .int .i64 c198_.gNum, .slx] [(3, .ex 40 true (List.map GTerm.c c198_.gKids))])], []⟩) [] [1, 4, 5, 6, 7, 8] [1, 6] [] (by kernel_rfl) ?_
        refine Wc.skip ?_
        refine Wc.seq ?_
        refine Wc.seq ?_
        obtain ⟨c201_, h222, h⟩ := obind h
        obtain ⟨d202_, h223, h⟩ := obind h
        refine Wc.draw hmix [{}, {}, { r := some (.v (.agg [.int .i64 c201_.gKind, .str c201_.gName, .int .i64 c201_.gNum, .sl (List.map GTerm.c c201_.gKids)]) []) }, { r := some (.v (.bool d202_) []) }] [] [1, 4, 5, 6, 7, 8, 45] [1, 6] [] ⟨[(1, (.ptr 1 0, [])), (4, (.v (.sl (List.map GTerm.c i197_.1)), [(0, .app 40)])), (5, (.v (.bool i197_.2), [])), (6, (.ptr 6 0, [])), (7, (.v (.slx), [(0, .ex 40 true (List.map GTerm.c i199_.1))])), (8, (.v (.bool i199_.2), [])), (45, (.v (.bool (!d202_)), []))], [(1, .cells [.int .i64 c194_.gKind, .str c194_.gName, .int .i64 c194_.gNum, .sl (List.map GTerm.c c194_.gKids)] []), (6, .cells [.int .i64 c198_.gKind, .str c198_.gName, .int .i64 c198_.gNum, .slx] [(3, .ex 40 true (List.map GTerm.c c198_.gKids))])], []⟩ _ (by kernel_rfl) (fun X => by kernel_rfl) (.cons (claws_toTerm h222) (.cons (claws_eqTerm h223) .nil)) ?_
        rcases oif h with ⟨h224, h⟩ | ⟨h224, h⟩
        · refine Wc.condT h224 (by kernel_rfl) ?_
          refine Wc.seq ?_
          refine Wc.region [] [] [2] [] [] ⟨[(2, (.v (.bool false), []))], [], []⟩ _ (by kernel_rfl) .nil ?_
          refine Wc.ret ?_
          obtain rfl := Option.some.inj h
          exact ⟨.inl rfl, by kernel_rfl, by kernel_rfl⟩
        · refine Wc.condF h224 (by kernel_rfl) ?_
          refine Wc.fix (st' := ⟨[(1, (.ptr 1 0, [])), (4, (.v (.sl (List.map GTerm.c i197_.1)), [(0, .app 40)])), (5, (.v (.bool i197_.2), [])), (6, (.ptr 6 0, [])), (7, (.v (.slx), [(0, .ex 40 true (List.map GTerm.c i199_.1))])), (8, (.v (.bool i199_.2), []))], [(1, .cells [.int .i64 c194_.gKind, .str c194_.gName, .int .i64 c194_.gNum, .sl (List.map GTerm.c c194_.gKids)] []), (6, .cells [.int .i64 c198_.gKind, .str c198_.gName, .int .i64 c198_.gNum, .slx] [(3, .ex 40 true (List.map GTerm.c c198_.gKids))])], []⟩) [] [1, 4, 5, 6, 7, 8] [1, 6] [] (by kernel_rfl) ?_
          refine Wc.skip ?_
          refine Wc.seq ?_
          refine Wc.region [] [] [1, 4, 5, 6, 7, 8, 9] [1, 6] [] ⟨[(1, (.ptr 1 0, [])), (4, (.v (.sl (List.map GTerm.c i197_.1)), [(0, .app 40)])), (5, (.v (.bool i197_.2), [])), (6, (.ptr 6 0, [])), (7, (.v (.slx), [(0, .ex 40 true (List.map GTerm.c i199_.1))])), (8, (.v (.bool i199_.2), [])), (9, (.v (.int .i64 1), []))], [(1, .cells [.int .i64 c194_.gKind, .str c194_.gName, .int .i64 c194_.gNum, .sl (List.map GTerm.c c194_.gKids)] []), (6, .cells [.int .i64 c198_.gKind, .str c198_.gName, .int .i64 c198_.gNum, .slx] [(3, .ex 40 true (List.map GTerm.c c198_.gKids))])], []⟩ _ (by kernel_rfl) .nil ?_
          refine Wc.seq ?_
          obtain ⟨j203_, h225, h⟩ := obind h
          refine Wc.region [{}, {}, { io := [0], r := some (.v (.int .i64 j203_.2) []), outs := [(0, .v .undef [(3, .ex 1000000007 true (List.map GTerm.c j203_.1.gKids))])] }] [] [1, 4, 5, 7, 8, 9] [1] [] ⟨[(1, (.ptr 1 0, [])), (4, (.v (.sl (List.map GTerm.c i197_.1)), [(0, .app 40)])), (5, (.v (.bool i197_.2), [])), (7, (.v (.slx), [(0, .ex 40 true (List.map GTerm.c i199_.1))])), (8, (.v (.bool i199_.2), [])), (9, (.v (.int .i64 j203_.2), []))], [(1, .cells [.int .i64 c194_.gKind, .str c194_.gName, .int .i64 c194_.gNum, .sl (List.map GTerm.c c194_.gKids)] [])], []⟩ _ (by kernel_rfl) (.cons (FnO.any (args := [.io (.agg [.int .i64 c198_.gKind, .str c198_.gName, .int .i64 c198_.gNum, .slx]) [(3, .ex 40 true (List.map GTerm.c c198_.gKids))], .v (.int .i64 1) []]) (claws_markTerm h225)) .nil) ?_
          refine Wc.seq ?_
          refine Wc.seq ?_
          rcases oif h with ⟨h226, h⟩ | ⟨h226, h⟩
          · refine Wc.region [{}, {}, { re := some (.bool true) }] [] [1, 4, 5, 7, 61] [1] [] ⟨[(1, (.ptr 1 0, [])), (4, (.v (.sl (List.map GTerm.c i197_.1)), [(0, .app 40)])), (5, (.v (.bool i197_.2), [])), (7, (.v (.slx), [(0, .ex 40 true (List.map GTerm.c i199_.1))])), (61, (.v (.bool true), []))], [(1, .cells [.int .i64 c194_.gKind, .str c194_.gName, .int .i64 c194_.gNum, .sl (List.map GTerm.c c194_.gKids)] [])], []⟩ _ (by kernel_rfl) (.cons (congrArg AV.bool h226) .nil) ?_
            refine Wc.condT rfl (by kernel_rfl) ?_
            refine Wc.seq ?_
            refine Wc.region [] [] [2] [] [] ⟨[(2, (.v (.bool false), []))], [], []⟩ _ (by kernel_rfl) .nil ?_
            refine Wc.ret ?_
            obtain rfl := Option.some.inj h
            exact ⟨.inl rfl, by kernel_rfl, by kernel_rfl⟩
          · obtain ⟨d204_, h227, h⟩ := obind h
            rcases oif h with ⟨h228, h⟩ | ⟨h228, h⟩
            · refine Wc.region [{}, {}, { re := some (.bool false) }, {}, {}, { r := some (.v (.bool d204_) []) }, {}, {}, { re := some (.bool true) }] [] [1, 4, 5, 7, 61] [1] [] ⟨[(1, (.ptr 1 0, [])), (4, (.v (.sl (List.map GTerm.c i197_.1)), [(0, .app 40)])), (5, (.v (.bool i197_.2), [])), (7, (.v (.slx), [(0, .ex 40 true (List.map GTerm.c i199_.1))])), (61, (.v (.bool true), []))], [(1, .cells [.int .i64 c194_.gKind, .str c194_.gName, .int .i64 c194_.gNum, .sl (List.map GTerm.c c194_.gKids)] [])], []⟩ _ (by kernel_rfl) (.cons (congrArg AV.bool h226) (.cons (claws_eqTermS h227) (.cons (congrArg AV.bool h228) .nil))) ?_
              refine Wc.condT rfl (by kernel_rfl) ?_
              refine Wc.seq ?_
              refine Wc.region [] [] [2] [] [] ⟨[(2, (.v (.bool false), []))], [], []⟩ _ (by kernel_rfl) .nil ?_
              refine Wc.ret ?_
              obtain rfl := Option.some.inj h
              exact ⟨.inl rfl, by kernel_rfl, by kernel_rfl⟩
            · refine Wc.region [{}, {}, { re := some (.bool false) }, {}, {}, { r := some (.v (.bool d204_) []) }, {}, {}, { re := some (.bool false) }] [] [1, 4, 5, 7, 61] [1] [] ⟨[(1, (.ptr 1 0, [])), (4, (.v (.sl (List.map GTerm.c i197_.1)), [(0, .app 40)])), (5, (.v (.bool i197_.2), [])), (7, (.v (.slx), [(0, .ex 40 true (List.map GTerm.c i199_.1))])), (61, (.v (.bool (!(i199_.2 == i197_.2))), []))], [(1, .cells [.int .i64 c194_.gKind, .str c194_.gName, .int .i64 c194_.gNum, .sl (List.map GTerm.c c194_.gKids)] [])], []⟩ _ (by kernel_rfl) (.cons (congrArg AV.bool h226) (.cons (claws_eqTermS h227) (.cons (congrArg AV.bool h228) .nil))) ?_
              rcases oif h with ⟨h229, h⟩ | ⟨h229, h⟩
              · refine Wc.condT h229 (by kernel_rfl) ?_
                refine Wc.seq ?_
                refine Wc.region [] [] [2] [] [] ⟨[(2, (.v (.bool false), []))], [], []⟩ _ (by kernel_rfl) .nil ?_
                refine Wc.ret ?_
                obtain rfl := Option.some.inj h
                exact ⟨.inl rfl, by kernel_rfl, by kernel_rfl⟩
              · refine Wc.condF h229 (by kernel_rfl) ?_
                refine Wc.fix (st' := ⟨[(1, (.ptr 1 0, [])), (4, (.v (.sl (List.map GTerm.c i197_.1)), [(0, .app 40)])), (5, (.v (.bool i197_.2), [])), (7, (.v (.slx), [(0, .ex 40 true (List.map GTerm.c i199_.1))]))], [(1, .cells [.int .i64 c194_.gKind, .str c194_.gName, .int .i64 c194_.gNum, .sl (List.map GTerm.c c194_.gKids)] [])], []⟩) [] [1, 4, 5, 7] [1] [] (by kernel_rfl) ?_
                refine Wc.skip ?_
                refine Wc.seq ?_
                refine Wc.region [] [] [1, 4, 5, 7, 10] [1] [] ⟨[(1, (.ptr 1 0, [])), (4, (.v (.sl (List.map GTerm.c i197_.1)), [(0, .app 40)])), (5, (.v (.bool i197_.2), [])), (7, (.v (.slx), [(0, .ex 40 true (List.map GTerm.c i199_.1))])), (10, (.v (.int .i64 1), []))], [(1, .cells [.int .i64 c194_.gKind, .str c194_.gName, .int .i64 c194_.gNum, .sl (List.map GTerm.c c194_.gKids)] [])], []⟩ _ (by kernel_rfl) .nil ?_
                refine Wc.seq ?_
                obtain ⟨f205_, h230, h⟩ := obind h
                refine Wc.region [{}, {}, { io := [0], r := some (.v (.int .i64 f205_.2) []), outs := [(0, .v .undef [(0, .ex 1000000007 true (List.map GTerm.c f205_.1))])] }] [] [1, 4, 5, 7, 10] [1] [] ⟨[(1, (.ptr 1 0, [])), (4, (.v (.sl (List.map GTerm.c i197_.1)), [(0, .app 40)])), (5, (.v (.bool i197_.2), [])), (7, (.v (.slx), [(0, .ex 1000000007 true (List.map GTerm.c f205_.1))])), (10, (.v (.int .i64 f205_.2), []))], [(1, .cells [.int .i64 c194_.gKind, .str c194_.gName, .int .i64 c194_.gNum, .sl (List.map GTerm.c c194_.gKids)] [])], []⟩ _ (by kernel_rfl) (.cons (FnO.any (args := [.io (.slx) [(0, .ex 40 true (List.map GTerm.c i199_.1))], .v (.int .i64 1) []]) (claws_markTermS h230)) .nil) ?_
                refine Wc.seq ?_
                refine Wc.region [] [] [1, 4, 5, 7, 10, 11] [1] [] ⟨[(1, (.ptr 1 0, [])), (4, (.v (.sl (List.map GTerm.c i197_.1)), [(0, .app 40)])), (5, (.v (.bool i197_.2), [])), (7, (.v (.slx), [(0, .ex 1000000007 true (List.map GTerm.c f205_.1))])), (10, (.v (.int .i64 f205_.2), [])), (11, (.v (.int .i64 1), []))], [(1, .cells [.int .i64 c194_.gKind, .str c194_.gName, .int .i64 c194_.gNum, .sl (List.map GTerm.c c194_.gKids)] [])], []⟩ _ (by kernel_rfl) .nil ?_
                refine Wc.seq ?_
                obtain ⟨b206_, h231, h⟩ := obind h
                refine Wc.region [{}, {}, { r := some (.v (.int .i64 b206_) []) }] [] [1, 4, 5, 7, 10, 11] [1] [] ⟨[(1, (.ptr 1 0, [])), (4, (.v (.sl (List.map GTerm.c i197_.1)), [(0, .app 40)])), (5, (.v (.bool i197_.2), [])), (7, (.v (.slx), [(0, .ex 1000000007 true (List.map GTerm.c f205_.1))])), (10, (.v (.int .i64 f205_.2), [])), (11, (.v (.int .i64 b206_), []))], [(1, .cells [.int .i64 c194_.gKind, .str c194_.gName, .int .i64 c194_.gNum, .sl (List.map GTerm.c c194_.gKids)] [])], []⟩ _ (by kernel_rfl) (.cons (claws_heldTermS h231) .nil) ?_
                refine Wc.seq ?_
                refine Wc.seq ?_
                refine Wc.region [] [] [1, 4, 5, 7, 10, 11, 69] [1] [] ⟨[(1, (.ptr 1 0, [])), (4, (.v (.sl (List.map GTerm.c i197_.1)), [(0, .app 40)])), (5, (.v (.bool i197_.2), [])), (7, (.v (.slx), [(0, .ex 1000000007 true (List.map GTerm.c f205_.1))])), (10, (.v (.int .i64 f205_.2), [])), (11, (.v (.int .i64 b206_), [])), (69, (.v (.bool (decide (b206_ < 0))), []))], [(1, .cells [.int .i64 c194_.gKind, .str c194_.gName, .int .i64 c194_.gNum, .sl (List.map GTerm.c c194_.gKids)] [])], []⟩ _ (by kernel_rfl) .nil ?_
                rcases oif h with ⟨h232, h⟩ | ⟨h232, h⟩
                · refine Wc.condT h232 (by kernel_rfl) ?_
                  refine Wc.seq ?_
                  refine Wc.region [] [] [2] [] [] ⟨[(2, (.v (.bool false), []))], [], []⟩ _ (by kernel_rfl) .nil ?_
                  refine Wc.ret ?_
                  obtain rfl := Option.some.inj h
                  exact ⟨.inl rfl, by kernel_rfl, by kernel_rfl⟩
                · refine Wc.condF h232 (by kernel_rfl) ?_
                  refine Wc.fix (st' := ⟨[(1, (.ptr 1 0, [])), (4, (.v (.sl (List.map GTerm.c i197_.1)), [(0, .app 40)])), (5, (.v (.bool i197_.2), [])), (7, (.v (.slx), [(0, .ex 1000000007 true (List.map GTerm.c f205_.1))])), (10, (.v (.int .i64 f205_.2), [])), (11, (.v (.int .i64 b206_), []))], [(1, .cells [.int .i64 c194_.gKind, .str c194_.gName, .int .i64 c194_.gNum, .sl (List.map GTerm.c c194_.gKids)] [])], []⟩) [] [1, 4, 5, 7, 10, 11] [1] [] (by kernel_rfl) ?_
                  refine Wc.skip ?_
                  refine Wc.seq ?_
                  refine Wc.seq ?_
                  refine Wc.region [] [] [1, 4, 5, 7, 10, 72] [1] [] ⟨[(1, (.ptr 1 0, [])), (4, (.v (.sl (List.map GTerm.c i197_.1)), [(0, .app 40)])), (5, (.v (.bool i197_.2), [])), (7, (.v (.slx), [(0, .ex 1000000007 true (List.map GTerm.c f205_.1))])), (10, (.v (.int .i64 f205_.2), [])), (72, (.v (.bool (b206_ != f205_.2)), []))], [(1, .cells [.int .i64 c194_.gKind, .str c194_.gName, .int .i64 c194_.gNum, .sl (List.map GTerm.c c194_.gKids)] [])], []⟩ _ (by kernel_rfl) .nil ?_
                  rcases oif h with ⟨h233, h⟩ | ⟨h233, h⟩
                  · refine Wc.condT h233 (by kernel_rfl) ?_
                    refine Wc.seq ?_
                    refine Wc.region [] [] [2] [] [] ⟨[(2, (.v (.bool false), []))], [], []⟩ _ (by kernel_rfl) .nil ?_
                    refine Wc.ret ?_
                    obtain rfl := Option.some.inj h
                    exact ⟨.inl rfl, by kernel_rfl, by kernel_rfl⟩
                  · refine Wc.condF h233 (by kernel_rfl) ?_
                    refine Wc.fix (st' := ⟨[(1, (.ptr 1 0, [])), (4, (.v (.sl (List.map GTerm.c i197_.1)), [(0, .app 40)])), (5, (.v (.bool i197_.2), [])), (7, (.v (.slx), [(0, .ex 1000000007 true (List.map GTerm.c f205_.1))])), (10, (.v (.int .i64 f205_.2), []))], [(1, .cells [.int .i64 c194_.gKind, .str c194_.gName, .int .i64 c194_.gNum, .sl (List.map GTerm.c c194_.gKids)] [])], []⟩) [] [1, 4, 5, 7, 10] [1] [] (by kernel_rfl) ?_
                    refine Wc.skip ?_
                    refine Wc.seq ?_
                    obtain ⟨c207_, h234, h⟩ := obind h
                    obtain ⟨i208_, h235, h⟩ := obind h
                    refine Wc.region [{}, { r := some (.v (.agg [.int .i64 c207_.gKind, .str c207_.gName, .int .i64 c207_.gNum, .sl (List.map GTerm.c c207_.gKids)]) []) }, { r := some (.v (.tup [.sl (List.map GTerm.c i208_.1), .bool i208_.2]) [(0, .app 40)]) }, { tk := [76] }, { tk := [73] }, {}, { tk := [77] }] [] [4, 5, 7, 10, 12, 13] [] [] ⟨[(4, (.v (.sl (List.map GTerm.c i197_.1)), [(0, .app 40)])), (5, (.v (.bool i197_.2), [])), (7, (.v (.slx), [(0, .ex 1000000007 true (List.map GTerm.c f205_.1))])), (10, (.v (.int .i64 f205_.2), [])), (12, (.v (.sl (List.map GTerm.c i208_.1)), [(0, .app 40)])), (13, (.v (.bool i208_.2), []))], [], []⟩ _ (by kernel_rfl) (.cons (claws_toTerm h234) (.cons (cimpl_ItemsOf h235) .nil)) ?_
                    refine Wc.seq ?_
                    refine Wc.seq ?_
                    obtain ⟨d209_, h236, h⟩ := obind h
                    rcases oif h with ⟨h237, h⟩ | ⟨h237, h⟩
                    · refine Wc.region [{ tk := [12] }, { tk := [4] }, { r := some (.v (.bool d209_) []) }, {}, { re := some (.bool true) }] [] [7, 10, 87] [] [] ⟨[(7, (.v (.slx), [(0, .ex 1000000007 true (List.map GTerm.c f205_.1))])), (10, (.v (.int .i64 f205_.2), [])), (87, (.v (.bool true), []))], [], []⟩ _ (by kernel_rfl) (.cons (claws_eqTermS h236) (.cons (congrArg AV.bool h237) .nil)) ?_
                      refine Wc.condT rfl (by kernel_rfl) ?_
                      refine Wc.seq ?_
                      refine Wc.region [] [] [2] [] [] ⟨[(2, (.v (.bool false), []))], [], []⟩ _ (by kernel_rfl) .nil ?_
                      refine Wc.ret ?_
                      obtain rfl := Option.some.inj h
                      exact ⟨.inl rfl, by kernel_rfl, by kernel_rfl⟩
                    · refine Wc.region [{ tk := [12] }, { tk := [4] }, { r := some (.v (.bool d209_) []) }, {}, { re := some (.bool false) }] [] [7, 10, 87] [] [] ⟨[(7, (.v (.slx), [(0, .ex 1000000007 true (List.map GTerm.c f205_.1))])), (10, (.v (.int .i64 f205_.2), [])), (87, (.v (.bool (!(i208_.2 == i197_.2))), []))], [], []⟩ _ (by kernel_rfl) (.cons (claws_eqTermS h236) (.cons (congrArg AV.bool h237) .nil)) ?_
                      rcases oif h with ⟨h238, h⟩ | ⟨h238, h⟩
                      · refine Wc.condT h238 (by kernel_rfl) ?_
                        refine Wc.seq ?_
                        refine Wc.region [] [] [2] [] [] ⟨[(2, (.v (.bool false), []))], [], []⟩ _ (by kernel_rfl) .nil ?_
                        refine Wc.ret ?_
                        obtain rfl := Option.some.inj h
                        exact ⟨.inl rfl, by kernel_rfl, by kernel_rfl⟩
                      · refine Wc.condF h238 (by kernel_rfl) ?_
                        refine Wc.fix (st' := ⟨[(7, (.v (.slx), [(0, .ex 1000000007 true (List.map GTerm.c f205_.1))])), (10, (.v (.int .i64 f205_.2), []))], [], []⟩) [] [7, 10] [] [] (by kernel_rfl) ?_
                        refine Wc.skip ?_
                        refine Wc.seq ?_
                        refine Wc.region [] [] [7, 10, 11] [] [] ⟨[(7, (.v (.slx), [(0, .ex 1000000007 true (List.map GTerm.c f205_.1))])), (10, (.v (.int .i64 f205_.2), [])), (11, (.v (.int .i64 1), []))], [], []⟩ _ (by kernel_rfl) .nil ?_
                        refine Wc.seq ?_
                        obtain ⟨b210_, h239, h⟩ := obind h
                        refine Wc.region [{ tk := [7] }, {}, { r := some (.v (.int .i64 b210_) []) }] [] [10, 11] [] [] ⟨[(10, (.v (.int .i64 f205_.2), [])), (11, (.v (.int .i64 b210_), []))], [], []⟩ _ (by kernel_rfl) (.cons (claws_heldTermS h239) .nil) ?_
                        refine Wc.seq ?_
                        refine Wc.seq ?_
                        refine Wc.region [] [] [10, 11, 92] [] [] ⟨[(10, (.v (.int .i64 f205_.2), [])), (11, (.v (.int .i64 b210_), [])), (92, (.v (.bool (decide (b210_ < 0))), []))], [], []⟩ _ (by kernel_rfl) .nil ?_
                        rcases oif h with ⟨h240, h⟩ | ⟨h240, h⟩
                        · refine Wc.condT h240 (by kernel_rfl) ?_
                          refine Wc.seq ?_
                          refine Wc.region [] [] [2] [] [] ⟨[(2, (.v (.bool false), []))], [], []⟩ _ (by kernel_rfl) .nil ?_
                          refine Wc.ret ?_
                          obtain rfl := Option.some.inj h
                          exact ⟨.inl rfl, by kernel_rfl, by kernel_rfl⟩
                        · refine Wc.condF h240 (by kernel_rfl) ?_
                          refine Wc.fix (st' := ⟨[(10, (.v (.int .i64 f205_.2), [])), (11, (.v (.int .i64 b210_), []))], [], []⟩) [] [10, 11] [] [] (by kernel_rfl) ?_
                          refine Wc.skip ?_
                          refine Wc.seq ?_
                          refine Wc.seq ?_
                          refine Wc.region [] [] [95] [] [] ⟨[(95, (.v (.bool (b210_ != f205_.2)), []))], [], []⟩ _ (by kernel_rfl) .nil ?_
                          rcases oif h with ⟨h241, h⟩ | ⟨h241, h⟩
                          · refine Wc.condT h241 (by kernel_rfl) ?_
                            refine Wc.seq ?_
                            refine Wc.region [] [] [2] [] [] ⟨[(2, (.v (.bool false), []))], [], []⟩ _ (by kernel_rfl) .nil ?_
                            refine Wc.ret ?_
                            obtain rfl := Option.some.inj h
                            exact ⟨.inl rfl, by kernel_rfl, by kernel_rfl⟩
                          · refine Wc.condF h241 (by kernel_rfl) ?_
                            refine Wc.fix (st' := ⟨[], [], []⟩) [] [] [] [] (by kernel_rfl) ?_
                            refine Wc.skip ?_
                            refine Wc.seq ?_
                            refine Wc.region [] [] [2] [] [] ⟨[(2, (.v (.bool true), []))], [], []⟩ _ (by kernel_rfl) .nil ?_
                            refine Wc.ret ?_
                            obtain rfl := Option.some.inj h
                            exact ⟨.inl rfl, by kernel_rfl, by kernel_rfl⟩
end Go.Proofs.Ytjgagbajgdmocaa

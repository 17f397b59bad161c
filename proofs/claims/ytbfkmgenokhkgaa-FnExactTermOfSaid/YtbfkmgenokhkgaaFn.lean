/- What the functions do, part 2. -/
import Derived.Test.YtbfkmgenokhkgaaFna
set_option linter.unusedVariables false
set_option linter.unusedSimpArgs false
namespace Go.Proofs.Ytbfkmgenokhkgaa
open Go.RowKit Go.Bv
def pimpl_termFrom_d_L4 (k : Nat) (rimpl_termFrom_d : (List GIns) → Int → Int → Option (GTerm × Int × Bool)) (g239_ : GIns) (i235_ : List GIns) (b237_ : Int) : Nat → Int → Int → GTerm → Option (Out (GTerm × Int × Bool) (Int × GTerm))
  | 0, _, _, _ => none
  | m + 1, b246_, b247_, c248_ =>
    if (decide (b247_ < g239_.gMany)) = true then
      (rimpl_termFrom_d i235_ b246_ (wr.i64 (b237_ + 1))).bind fun l251_ =>
      if (!l251_.2.2) = true then
        some (.ret (GTerm.mk 0 (bs []) 0 [], b246_, false))
      else
        if c248_.gKids.length + [GTerm.mk l251_.1.gKind l251_.1.gName l251_.1.gNum l251_.1.gKids].length ≤ 1073741824 then
          pimpl_termFrom_d_L4 k rimpl_termFrom_d g239_ i235_ b237_ m l251_.2.1 (wr.i64 (b247_ + 1)) (GTerm.mk c248_.gKind c248_.gName c248_.gNum (c248_.gKids ++ [GTerm.mk l251_.1.gKind l251_.1.gName l251_.1.gNum l251_.1.gKids]))
        else none
    else
      some (.done (b246_, c248_))
def pimpl_termFrom_d_J3 (k : Nat) (rimpl_termFrom_d : (List GIns) → Int → Int → Option (GTerm × Int × Bool)) (b236_ : Int) (g239_ : GIns) (i235_ : List GIns) (b237_ : Int) (d244_ : Bool) : Option (GTerm × Int × Bool) :=
  if d244_ = true then
    some (GTerm.mk 0 (bs []) 0 [], wr.i64 (b236_ + 1), false)
  else
    (pimpl_structure_d k g239_.gName []).bind fun c245_ =>
    (pimpl_termFrom_d_L4 k rimpl_termFrom_d g239_ i235_ b237_ k (wr.i64 (b236_ + 1)) 0 c245_).bind fun out4 => match out4 with
    | .ret r => some r
    | .done (b249_, c250_) =>
      some (c250_, b249_, true)
def pimpl_termFrom_d_J2 (k : Nat) (rimpl_termFrom_d : (List GIns) → Int → Int → Option (GTerm × Int × Bool)) (g239_ : GIns) (b236_ : Int) (i235_ : List GIns) (b237_ : Int) (d242_ : Bool) : Option (GTerm × Int × Bool) :=
  if d242_ = true then
    (pimpl_variable_d k g239_.gNum).bind fun c243_ =>
    some (c243_, wr.i64 (b236_ + 1), true)
  else
    if (!((g239_.gOp == 5) && (sEq g239_.gName g239_.gName && ((g239_.gNum == 0) && ((g239_.gMany == g239_.gMany) && true))))) = true then
      pimpl_termFrom_d_J3 k rimpl_termFrom_d b236_ g239_ i235_ b237_ true
    else
      (pimpl_within k g239_.gMany 1 5).bind fun d252_ =>
      pimpl_termFrom_d_J3 k rimpl_termFrom_d b236_ g239_ i235_ b237_ (!d252_)
def pimpl_termFrom_d_J1 (k : Nat) (rimpl_termFrom_d : (List GIns) → Int → Int → Option (GTerm × Int × Bool)) (b236_ : Int) (i235_ : List GIns) (b237_ : Int) (d238_ : Bool) : Option (GTerm × Int × Bool) :=
  if d238_ = true then
    some (GTerm.mk 0 (bs []) 0 [], b236_, false)
  else
    (at' i235_ b236_).bind fun g239_ =>
    if ((g239_.gOp == 1) && (sEq g239_.gName g239_.gName && ((g239_.gNum == 0) && ((g239_.gMany == 0) && true)))) = true then
      (pimpl_atom_d k g239_.gName).bind fun c240_ =>
      some (c240_, wr.i64 (b236_ + 1), true)
    else
      if ((g239_.gOp == 2) && (sEq g239_.gName (bs []) && ((g239_.gNum == g239_.gNum) && ((g239_.gMany == 0) && true)))) = true then
        (pimpl_number_d k g239_.gNum).bind fun c241_ =>
        some (c241_, wr.i64 (b236_ + 1), true)
      else
        if ((g239_.gOp == 3) && (sEq g239_.gName (bs []) && ((g239_.gNum == g239_.gNum) && ((g239_.gMany == 0) && true)))) = true then
          pimpl_termFrom_d_J2 k rimpl_termFrom_d g239_ b236_ i235_ b237_ ((g239_.gOp == 3) && (sEq g239_.gName (bs []) && ((g239_.gNum == g239_.gNum) && ((g239_.gMany == 0) && true))))
        else
          pimpl_termFrom_d_J2 k rimpl_termFrom_d g239_ b236_ i235_ b237_ ((g239_.gOp == 4) && (sEq g239_.gName (bs []) && ((g239_.gNum == g239_.gNum) && ((g239_.gMany == 0) && true))))
mutual
/-- impl.termFrom -/
def pimpl_termFrom_d : Nat → (List GIns) → Int → Int → Option (GTerm × Int × Bool)
  | 0, _, _, _ => none
  | k + 1, i235_, b236_, b237_ =>
    if (decide (b236_ ≥ (i235_.length : Int))) = true then
      pimpl_termFrom_d_J1 k (pimpl_termFrom_d k) b236_ i235_ b237_ true
    else
      pimpl_termFrom_d_J1 k (pimpl_termFrom_d k) b236_ i235_ b237_ (decide (b237_ > 40))
end
set_option maxHeartbeats 4000000 in
theorem all_pimpl_termFrom_d : ∀ k : Nat, (∀ {i235_ : List GIns} {b236_ : Int} {b237_ : Int} {r : GTerm × Int × Bool}, pimpl_termFrom_d k i235_ b236_ b237_ = some r → FnO Try.prog 68 [.v (.sl (List.map GIns.c i235_)) [], .v (.int .i64 b236_) [], .v (.int .i64 b237_) []] (.v (.tup [.agg [.int .i64 r.1.gKind, .str r.1.gName, .int .i64 r.1.gNum, .slx], .int .i64 r.2.1, .bool r.2.2]) [(3, .ex 37 true (List.map GTerm.c r.1.gKids))]) []) := by
  intro k
  induction k with
  | zero =>
    · intro i235_ b236_ b237_ r h
      exact (onone (by rw [pimpl_termFrom_d] at h; exact h)).elim
  | succ k ih =>
    have ih_pimpl_termFrom_d := @ih
    · intro i235_ b236_ b237_ r h
      rw [pimpl_termFrom_d] at h
      refine FnO.of Try.func68 (rfl : Try.f68.body = some _) (Nat.le_of_ble_eq_true (by kernel_rfl)) (Nat.le_of_ble_eq_true (by kernel_rfl)) ?_
      intro w0 X0 Fin pv0 pb
      refine Wc.seq ?_
      refine Wc.region [] [] [0, 1, 2, 6] [6] [] ⟨[(0, (.v (.sl (List.map GIns.c i235_)), [])), (1, (.v (.int .i64 b236_), [])), (2, (.v (.int .i64 b237_), [])), (6, (.ptr 6 0, []))], [(6, .cells [.int .i64 0, .str (bs []), .int .i64 0, .sl (List.map GTerm.c [])] [(3, .app 37)])], []⟩ _ (by kernel_rfl) .nil ?_
      refine Wc.seq ?_
      refine Wc.seqJ (fun st => ∃ (d238_ : Bool), st = ⟨[(0, (.v (.sl (List.map GIns.c i235_)), [])), (1, (.v (.int .i64 b236_), [])), (2, (.v (.int .i64 b237_), [])), (6, (.ptr 6 0, [])), (22, (.v (.bool d238_), []))], [(6, .cells [.int .i64 0, .str (bs []), .int .i64 0, .slx] [(3, .ex 37 true (List.map GTerm.c []))])], []⟩ ∧ pimpl_termFrom_d_J1 k (pimpl_termFrom_d k) b236_ i235_ b237_ d238_ = some r) ?_ ?_
      · rcases oif h with ⟨h279, h⟩ | ⟨h279, h⟩
        · refine Wc.region [{}, {}, { v := some (.int .i64 (i235_.length : Int)) }, {}, { re := some (.bool true) }] [.ow (.b 6 3) true] [0, 1, 2, 6, 22] [6] [] ⟨[(0, (.v (.sl (List.map GIns.c i235_)), [])), (1, (.v (.int .i64 b236_), [])), (2, (.v (.int .i64 b237_), [])), (6, (.ptr 6 0, [])), (22, (.v (.bool true), []))], [(6, .cells [.int .i64 0, .str (bs []), .int .i64 0, .slx] [(3, .ex 37 true (List.map GTerm.c []))])], []⟩ _ (by kernel_rfl) (.cons (len_obl GIns.c i235_) (.cons (congrArg AV.bool h279) .nil)) ?_
          exact ⟨_, rfl, h⟩
        · refine Wc.region [{}, {}, { v := some (.int .i64 (i235_.length : Int)) }, {}, { re := some (.bool false) }] [.ow (.b 6 3) true] [0, 1, 2, 6, 22] [6] [] ⟨[(0, (.v (.sl (List.map GIns.c i235_)), [])), (1, (.v (.int .i64 b236_), [])), (2, (.v (.int .i64 b237_), [])), (6, (.ptr 6 0, [])), (22, (.v (.bool (decide (b237_ > 40))), []))], [(6, .cells [.int .i64 0, .str (bs []), .int .i64 0, .slx] [(3, .ex 37 true (List.map GTerm.c []))])], []⟩ _ (by kernel_rfl) (.cons (len_obl GIns.c i235_) (.cons (congrArg AV.bool h279) .nil)) ?_
          exact ⟨_, rfl, h⟩
      · rintro st ⟨d238_, rfl, h⟩
        rcases oif h with ⟨h261, h⟩ | ⟨h261, h⟩
        · refine Wc.condT h261 (by kernel_rfl) ?_
          refine Wc.seq ?_
          refine Wc.region [{}, {}, { tk := [23] }] [] [6, 7, 8] [6] [] ⟨[(6, (.ptr 6 0, [])), (7, (.v (.int .i64 b236_), [])), (8, (.v (.bool false), []))], [(6, .cells [.int .i64 0, .str (bs []), .int .i64 0, .sl (List.map GTerm.c [])] [(3, .app 37)])], []⟩ _ (by kernel_rfl) .nil ?_
          refine Wc.fix (st' := ⟨[(6, (.ptr 6 0, [])), (7, (.v (.int .i64 b236_), [])), (8, (.v (.bool false), []))], [(6, .cells [.int .i64 0, .str (bs []), .int .i64 0, .slx] [(3, .ex 37 true (List.map GTerm.c []))])], []⟩) [.ow (.b 6 3) true] [6, 7, 8] [6] [] (by kernel_rfl) ?_
          refine Wc.ret ?_
          obtain rfl := Option.some.inj h
          exact ⟨.inl rfl, by kernel_rfl, by kernel_rfl⟩
        · refine Wc.condF h261 (by kernel_rfl) ?_
          refine Wc.fix (st' := ⟨[(0, (.v (.sl (List.map GIns.c i235_)), [])), (1, (.v (.int .i64 b236_), [])), (2, (.v (.int .i64 b237_), [])), (6, (.ptr 6 0, []))], [(6, .cells [.int .i64 0, .str (bs []), .int .i64 0, .slx] [(3, .ex 37 true (List.map GTerm.c []))])], []⟩) [] [0, 1, 2, 6] [6] [] (by kernel_rfl) ?_
          refine Wc.skip ?_
          refine Wc.seq ?_
          obtain ⟨g239_, h262, h⟩ := obind h
          refine Wc.region [{}, {}, { v := some (.vptr [.int .i64 g239_.gOp, .str g239_.gName, .int .i64 g239_.gNum, .int .i64 g239_.gMany]) }] [] [0, 1, 2, 6, 9] [6, 9] [] ⟨[(0, (.v (.sl (List.map GIns.c i235_)), [])), (1, (.v (.int .i64 b236_), [])), (2, (.v (.int .i64 b237_), [])), (6, (.ptr 6 0, [])), (9, (.ptr 9 0, []))], [(6, .cells [.int .i64 0, .str (bs []), .int .i64 0, .slx] [(3, .ex 37 true (List.map GTerm.c []))]), (9, .cells [.int .i64 g239_.gOp, .str g239_.gName, .int .i64 g239_.gNum, .int .i64 g239_.gMany] [])], []⟩ _ (by kernel_rfl) (.cons (at_obl (c := GIns.c) (GIns.c_eq g239_) GIns.c_len h262) (.cons (len_ok 4 [.int .i64 g239_.gOp, .str g239_.gName, .int .i64 g239_.gNum, .int .i64 g239_.gMany]) .nil)) ?_
          refine Wc.seq ?_
          refine Wc.region [] [] [0, 1, 2, 6, 9] [6, 9] [] ⟨[(0, (.v (.sl (List.map GIns.c i235_)), [])), (1, (.v (.int .i64 (wr.i64 (b236_ + 1))), [])), (2, (.v (.int .i64 b237_), [])), (6, (.ptr 6 0, [])), (9, (.ptr 9 0, []))], [(6, .cells [.int .i64 0, .str (bs []), .int .i64 0, .slx] [(3, .ex 37 true (List.map GTerm.c []))]), (9, .cells [.int .i64 g239_.gOp, .str g239_.gName, .int .i64 g239_.gNum, .int .i64 g239_.gMany] [])], []⟩ _ (by kernel_rfl) .nil ?_
          refine Wc.seq ?_
          refine Wc.block ?_
          refine Wc.seq ?_
          refine Wc.region [] [] [0, 1, 2, 6, 9, 31] [6, 9] [] ⟨[(0, (.v (.sl (List.map GIns.c i235_)), [])), (1, (.v (.int .i64 (wr.i64 (b236_ + 1))), [])), (2, (.v (.int .i64 b237_), [])), (6, (.ptr 6 0, [])), (9, (.ptr 9 0, [])), (31, (.v (.bool ((g239_.gOp == 1) && (sEq g239_.gName g239_.gName && ((g239_.gNum == 0) && ((g239_.gMany == 0) && true))))), []))], [(6, .cells [.int .i64 0, .str (bs []), .int .i64 0, .slx] [(3, .ex 37 true (List.map GTerm.c []))]), (9, .cells [.int .i64 g239_.gOp, .str g239_.gName, .int .i64 g239_.gNum, .int .i64 g239_.gMany] [])], []⟩ _ (by kernel_rfl) .nil ?_
          rcases oif h with ⟨h263, h⟩ | ⟨h263, h⟩
          · refine Wc.condT h263 (by kernel_rfl) ?_
            refine Wc.seq ?_
            obtain ⟨c240_, h264, h⟩ := obind h
            refine Wc.region [{}, {}, { r := some (.v (.agg [.int .i64 c240_.gKind, .str c240_.gName, .int .i64 c240_.gNum, .slx]) [(3, .ex 37 true (List.map GTerm.c c240_.gKids))]) }, {}, { tk := [39] }] [] [6, 7, 8] [6] [] ⟨[(6, (.ptr 6 0, [])), (7, (.v (.int .i64 (wr.i64 (b236_ + 1))), [])), (8, (.v (.bool true), []))], [(6, .cells [.int .i64 c240_.gKind, .str c240_.gName, .int .i64 c240_.gNum, .slx] [(3, .ex 37 true (List.map GTerm.c c240_.gKids))])], []⟩ _ (by kernel_rfl) (.cons (cimpl_atom_d h264) .nil) ?_
            refine Wc.ret ?_
            obtain rfl := Option.some.inj h
            exact ⟨.inl rfl, by kernel_rfl, by kernel_rfl⟩
          · refine Wc.condF h263 (by kernel_rfl) ?_
            refine Wc.seq ?_
            refine Wc.region [] [] [0, 1, 2, 6, 9, 41] [6, 9] [] ⟨[(0, (.v (.sl (List.map GIns.c i235_)), [])), (1, (.v (.int .i64 (wr.i64 (b236_ + 1))), [])), (2, (.v (.int .i64 b237_), [])), (6, (.ptr 6 0, [])), (9, (.ptr 9 0, [])), (41, (.v (.bool ((g239_.gOp == 2) && (sEq g239_.gName (bs []) && ((g239_.gNum == g239_.gNum) && ((g239_.gMany == 0) && true))))), []))], [(6, .cells [.int .i64 0, .str (bs []), .int .i64 0, .slx] [(3, .ex 37 true (List.map GTerm.c []))]), (9, .cells [.int .i64 g239_.gOp, .str g239_.gName, .int .i64 g239_.gNum, .int .i64 g239_.gMany] [])], []⟩ _ (by kernel_rfl) .nil ?_
            rcases oif h with ⟨h265, h⟩ | ⟨h265, h⟩
            · refine Wc.condT h265 (by kernel_rfl) ?_
              refine Wc.seq ?_
              obtain ⟨c241_, h266, h⟩ := obind h
              refine Wc.region [{}, {}, { r := some (.v (.agg [.int .i64 c241_.gKind, .str c241_.gName, .int .i64 c241_.gNum, .slx]) [(3, .ex 37 true (List.map GTerm.c c241_.gKids))]) }, {}, { tk := [49] }] [] [6, 7, 8] [6] [] ⟨[(6, (.ptr 6 0, [])), (7, (.v (.int .i64 (wr.i64 (b236_ + 1))), [])), (8, (.v (.bool true), []))], [(6, .cells [.int .i64 c241_.gKind, .str c241_.gName, .int .i64 c241_.gNum, .slx] [(3, .ex 37 true (List.map GTerm.c c241_.gKids))])], []⟩ _ (by kernel_rfl) (.cons (cimpl_number_d h266) .nil) ?_
              refine Wc.ret ?_
              obtain rfl := Option.some.inj h
              exact ⟨.inl rfl, by kernel_rfl, by kernel_rfl⟩
            · refine Wc.condF h265 (by kernel_rfl) ?_
              refine Wc.seqJ (fun st => ∃ (d242_ : Bool), st = ⟨[(0, (.v (.sl (List.map GIns.c i235_)), [])), (1, (.v (.int .i64 (wr.i64 (b236_ + 1))), [])), (2, (.v (.int .i64 b237_), [])), (6, (.ptr 6 0, [])), (9, (.ptr 9 0, [])), (51, (.v (.bool d242_), []))], [(6, .cells [.int .i64 0, .str (bs []), .int .i64 0, .slx] [(3, .ex 37 true (List.map GTerm.c []))]), (9, .cells [.int .i64 g239_.gOp, .str g239_.gName, .int .i64 g239_.gNum, .int .i64 g239_.gMany] [])], []⟩ ∧ pimpl_termFrom_d_J2 k (pimpl_termFrom_d k) g239_ b236_ i235_ b237_ d242_ = some r) ?_ ?_
              · refine Wc.seq ?_
                refine Wc.region [] [] [0, 1, 2, 6, 9, 51] [6, 9] [] ⟨[(0, (.v (.sl (List.map GIns.c i235_)), [])), (1, (.v (.int .i64 (wr.i64 (b236_ + 1))), [])), (2, (.v (.int .i64 b237_), [])), (6, (.ptr 6 0, [])), (9, (.ptr 9 0, [])), (51, (.v (.bool ((g239_.gOp == 3) && (sEq g239_.gName (bs []) && ((g239_.gNum == g239_.gNum) && ((g239_.gMany == 0) && true))))), []))], [(6, .cells [.int .i64 0, .str (bs []), .int .i64 0, .slx] [(3, .ex 37 true (List.map GTerm.c []))]), (9, .cells [.int .i64 g239_.gOp, .str g239_.gName, .int .i64 g239_.gNum, .int .i64 g239_.gMany] [])], []⟩ _ (by kernel_rfl) .nil ?_
                rcases oif h with ⟨h278, h⟩ | ⟨h278, h⟩
                · refine Wc.condT h278 (by kernel_rfl) ?_
                  refine Wc.skip ?_
                  exact ⟨_, rfl, h⟩
                · refine Wc.condF h278 (by kernel_rfl) ?_
                  refine Wc.region [] [] [0, 1, 2, 6, 9, 51] [6, 9] [] ⟨[(0, (.v (.sl (List.map GIns.c i235_)), [])), (1, (.v (.int .i64 (wr.i64 (b236_ + 1))), [])), (2, (.v (.int .i64 b237_), [])), (6, (.ptr 6 0, [])), (9, (.ptr 9 0, [])), (51, (.v (.bool ((g239_.gOp == 4) && (sEq g239_.gName (bs []) && ((g239_.gNum == g239_.gNum) && ((g239_.gMany == 0) && true))))), []))], [(6, .cells [.int .i64 0, .str (bs []), .int .i64 0, .slx] [(3, .ex 37 true (List.map GTerm.c []))]), (9, .cells [.int .i64 g239_.gOp, .str g239_.gName, .int .i64 g239_.gNum, .int .i64 g239_.gMany] [])], []⟩ _ (by kernel_rfl) .nil ?_
                  exact ⟨_, rfl, h⟩
              · rintro st ⟨d242_, rfl, h⟩
                rcases oif h with ⟨h267, h⟩ | ⟨h267, h⟩
                · refine Wc.condT h267 (by kernel_rfl) ?_
                  refine Wc.seq ?_
                  obtain ⟨c243_, h268, h⟩ := obind h
                  refine Wc.region [{}, {}, { r := some (.v (.agg [.int .i64 c243_.gKind, .str c243_.gName, .int .i64 c243_.gNum, .slx]) [(3, .ex 37 true (List.map GTerm.c c243_.gKids))]) }, {}, { tk := [64] }] [] [6, 7, 8] [6] [] ⟨[(6, (.ptr 6 0, [])), (7, (.v (.int .i64 (wr.i64 (b236_ + 1))), [])), (8, (.v (.bool true), []))], [(6, .cells [.int .i64 c243_.gKind, .str c243_.gName, .int .i64 c243_.gNum, .slx] [(3, .ex 37 true (List.map GTerm.c c243_.gKids))])], []⟩ _ (by kernel_rfl) (.cons (cimpl_variable_d h268) .nil) ?_
                  refine Wc.ret ?_
                  obtain rfl := Option.some.inj h
                  exact ⟨.inl rfl, by kernel_rfl, by kernel_rfl⟩
                · refine Wc.condF h267 (by kernel_rfl) ?_
                  refine Wc.seqJ (fun st => ∃ (d244_ : Bool), st = ⟨[(0, (.v (.sl (List.map GIns.c i235_)), [])), (1, (.v (.int .i64 (wr.i64 (b236_ + 1))), [])), (2, (.v (.int .i64 b237_), [])), (6, (.ptr 6 0, [])), (9, (.ptr 9 0, [])), (66, (.v (.bool d244_), []))], [(6, .cells [.int .i64 0, .str (bs []), .int .i64 0, .slx] [(3, .ex 37 true (List.map GTerm.c []))]), (9, .cells [.int .i64 g239_.gOp, .str g239_.gName, .int .i64 g239_.gNum, .int .i64 g239_.gMany] [])], []⟩ ∧ pimpl_termFrom_d_J3 k (pimpl_termFrom_d k) b236_ g239_ i235_ b237_ d244_ = some r) ?_ ?_
                  · rcases oif h with ⟨h276, h⟩ | ⟨h276, h⟩
                    · refine Wc.region [{}, {}, {}, {}, {}, {}, {}, { re := some (.bool true) }] [] [0, 1, 2, 6, 9, 66] [6, 9] [] ⟨[(0, (.v (.sl (List.map GIns.c i235_)), [])), (1, (.v (.int .i64 (wr.i64 (b236_ + 1))), [])), (2, (.v (.int .i64 b237_), [])), (6, (.ptr 6 0, [])), (9, (.ptr 9 0, [])), (66, (.v (.bool true), []))], [(6, .cells [.int .i64 0, .str (bs []), .int .i64 0, .slx] [(3, .ex 37 true (List.map GTerm.c []))]), (9, .cells [.int .i64 g239_.gOp, .str g239_.gName, .int .i64 g239_.gNum, .int .i64 g239_.gMany] [])], []⟩ _ (by kernel_rfl) (.cons (congrArg AV.bool h276) .nil) ?_
                      exact ⟨_, rfl, h⟩
                    · obtain ⟨d252_, h277, h⟩ := obind h
                      refine Wc.region [{}, {}, {}, {}, {}, {}, {}, { re := some (.bool false) }, {}, {}, { r := some (.v (.bool d252_) []) }] [] [0, 1, 2, 6, 9, 66] [6, 9] [] ⟨[(0, (.v (.sl (List.map GIns.c i235_)), [])), (1, (.v (.int .i64 (wr.i64 (b236_ + 1))), [])), (2, (.v (.int .i64 b237_), [])), (6, (.ptr 6 0, [])), (9, (.ptr 9 0, [])), (66, (.v (.bool (!d252_)), []))], [(6, .cells [.int .i64 0, .str (bs []), .int .i64 0, .slx] [(3, .ex 37 true (List.map GTerm.c []))]), (9, .cells [.int .i64 g239_.gOp, .str g239_.gName, .int .i64 g239_.gNum, .int .i64 g239_.gMany] [])], []⟩ _ (by kernel_rfl) (.cons (congrArg AV.bool h276) (.cons (cimpl_within h277) .nil)) ?_
                      exact ⟨_, rfl, h⟩
                  · rintro st ⟨d244_, rfl, h⟩
                    rcases oif h with ⟨h269, h⟩ | ⟨h269, h⟩
                    · refine Wc.condT h269 (by kernel_rfl) ?_
                      refine Wc.seq ?_
                      refine Wc.region [{}, {}, { tk := [80] }] [] [6, 7, 8] [6] [] ⟨[(6, (.ptr 6 0, [])), (7, (.v (.int .i64 (wr.i64 (b236_ + 1))), [])), (8, (.v (.bool false), []))], [(6, .cells [.int .i64 0, .str (bs []), .int .i64 0, .sl (List.map GTerm.c [])] [(3, .app 37)])], []⟩ _ (by kernel_rfl) .nil ?_
                      refine Wc.fix (st' := ⟨[(6, (.ptr 6 0, [])), (7, (.v (.int .i64 (wr.i64 (b236_ + 1))), [])), (8, (.v (.bool false), []))], [(6, .cells [.int .i64 0, .str (bs []), .int .i64 0, .slx] [(3, .ex 37 true (List.map GTerm.c []))])], []⟩) [.ow (.b 6 3) true] [6, 7, 8] [6] [] (by kernel_rfl) ?_
                      refine Wc.ret ?_
                      obtain rfl := Option.some.inj h
                      exact ⟨.inl rfl, by kernel_rfl, by kernel_rfl⟩
                    · refine Wc.condF h269 (by kernel_rfl) ?_
                      refine Wc.fix (st' := ⟨[(0, (.v (.sl (List.map GIns.c i235_)), [])), (1, (.v (.int .i64 (wr.i64 (b236_ + 1))), [])), (2, (.v (.int .i64 b237_), [])), (6, (.ptr 6 0, [])), (9, (.ptr 9 0, []))], [(6, .cells [.int .i64 0, .str (bs []), .int .i64 0, .slx] [(3, .ex 37 true (List.map GTerm.c []))]), (9, .cells [.int .i64 g239_.gOp, .str g239_.gName, .int .i64 g239_.gNum, .int .i64 g239_.gMany] [])], []⟩) [] [0, 1, 2, 6, 9] [6, 9] [] (by kernel_rfl) ?_
                      refine Wc.skip ?_
                      refine Wc.seq ?_
                      obtain ⟨c245_, h270, h⟩ := obind h
                      refine Wc.region [{}, {}, { tk := [2000075], r := some (.v (.agg [.int .i64 c245_.gKind, .str c245_.gName, .int .i64 c245_.gNum, .slx]) [(3, .ex 37 true (List.map GTerm.c c245_.gKids))]) }, {}, { tk := [84] }] [] [0, 1, 2, 6, 9, 10] [6, 9, 10] [] ⟨[(0, (.v (.sl (List.map GIns.c i235_)), [])), (1, (.v (.int .i64 (wr.i64 (b236_ + 1))), [])), (2, (.v (.int .i64 b237_), [])), (6, (.ptr 6 0, [])), (9, (.ptr 9 0, [])), (10, (.ptr 10 0, []))], [(6, .cells [.int .i64 0, .str (bs []), .int .i64 0, .slx] [(3, .ex 37 true (List.map GTerm.c []))]), (9, .cells [.int .i64 g239_.gOp, .str g239_.gName, .int .i64 g239_.gNum, .int .i64 g239_.gMany] []), (10, .cells [.int .i64 c245_.gKind, .str c245_.gName, .int .i64 c245_.gNum, .slx] [(3, .ex 37 true (List.map GTerm.c c245_.gKids))])], []⟩ _ (by kernel_rfl) (.cons (cimpl_structure_d h270) .nil) ?_
                      refine Wc.seq ?_
                      refine Wc.seq ?_
                      refine Wc.region [] [] [0, 1, 2, 6, 9, 10, 11] [6, 9, 10] [] ⟨[(0, (.v (.sl (List.map GIns.c i235_)), [])), (1, (.v (.int .i64 (wr.i64 (b236_ + 1))), [])), (2, (.v (.int .i64 b237_), [])), (6, (.ptr 6 0, [])), (9, (.ptr 9 0, [])), (10, (.ptr 10 0, [])), (11, (.v (.int .i64 0), []))], [(6, .cells [.int .i64 0, .str (bs []), .int .i64 0, .slx] [(3, .ex 37 true (List.map GTerm.c []))]), (9, .cells [.int .i64 g239_.gOp, .str g239_.gName, .int .i64 g239_.gNum, .int .i64 g239_.gMany] []), (10, .cells [.int .i64 c245_.gKind, .str c245_.gName, .int .i64 c245_.gNum, .slx] [(3, .ex 37 true (List.map GTerm.c c245_.gKids))])], []⟩ _ (by kernel_rfl) .nil ?_
                      obtain ⟨out4, h271, h⟩ := obind h
                      refine Wc.lastJ (fun st => ∃ (b249_ : Int) (c250_ : GTerm), out4 = .done (b249_, c250_) ∧ st = ⟨[(1, (.v (.int .i64 b249_), [])), (6, (.ptr 6 0, [])), (10, (.ptr 10 0, []))], [(6, .cells [.int .i64 0, .str (bs []), .int .i64 0, .slx] [(3, .ex 37 true (List.map GTerm.c []))]), (10, .cells [.int .i64 c250_.gKind, .str c250_.gName, .int .i64 c250_.gNum, .slx] [(3, .ex 37 true (List.map GTerm.c c250_.gKids))])], []⟩) ?_ ?_
                      · refine Wc.block ?_
                        refine Wc.loop (fun m st => ∃ (b246_ : Int) (b247_ : Int) (c248_ : GTerm), st = ⟨[(0, (.v (.sl (List.map GIns.c i235_)), [])), (1, (.v (.int .i64 b246_), [])), (2, (.v (.int .i64 b237_), [])), (6, (.ptr 6 0, [])), (9, (.ptr 9 0, [])), (10, (.ptr 10 0, [])), (11, (.v (.int .i64 b247_), []))], [(6, .cells [.int .i64 0, .str (bs []), .int .i64 0, .slx] [(3, .ex 37 true (List.map GTerm.c []))]), (9, .cells [.int .i64 g239_.gOp, .str g239_.gName, .int .i64 g239_.gNum, .int .i64 g239_.gMany] []), (10, .cells [.int .i64 c248_.gKind, .str c248_.gName, .int .i64 c248_.gNum, .slx] [(3, .ex 37 true (List.map GTerm.c c248_.gKids))])], []⟩ ∧ pimpl_termFrom_d_L4 k (pimpl_termFrom_d k) g239_ i235_ b237_ m b246_ b247_ c248_ = some out4) ?_ k ⟨_, _, _, rfl, h271⟩
                        rintro m st ⟨b246_, b247_, c248_, rfl, h271⟩
                        cases m with
                        | zero => exact (onone h271).elim
                        | succ m =>
                          refine Wc.seq ?_
                          refine Wc.seq ?_
                          refine Wc.region [] [] [0, 1, 2, 6, 9, 10, 11, 88] [6, 9, 10] [] ⟨[(0, (.v (.sl (List.map GIns.c i235_)), [])), (1, (.v (.int .i64 b246_), [])), (2, (.v (.int .i64 b237_), [])), (6, (.ptr 6 0, [])), (9, (.ptr 9 0, [])), (10, (.ptr 10 0, [])), (11, (.v (.int .i64 b247_), [])), (88, (.v (.bool (decide (b247_ < g239_.gMany))), []))], [(6, .cells [.int .i64 0, .str (bs []), .int .i64 0, .slx] [(3, .ex 37 true (List.map GTerm.c []))]), (9, .cells [.int .i64 g239_.gOp, .str g239_.gName, .int .i64 g239_.gNum, .int .i64 g239_.gMany] []), (10, .cells [.int .i64 c248_.gKind, .str c248_.gName, .int .i64 c248_.gNum, .slx] [(3, .ex 37 true (List.map GTerm.c c248_.gKids))])], []⟩ _ (by kernel_rfl) .nil ?_
                          rcases oif h271 with ⟨h272, h271⟩ | ⟨h272, h271⟩
                          · refine Wc.condT h272 (by kernel_rfl) ?_
                            refine Wc.fix (st' := ⟨[(0, (.v (.sl (List.map GIns.c i235_)), [])), (1, (.v (.int .i64 b246_), [])), (2, (.v (.int .i64 b237_), [])), (6, (.ptr 6 0, [])), (9, (.ptr 9 0, [])), (10, (.ptr 10 0, [])), (11, (.v (.int .i64 b247_), []))], [(6, .cells [.int .i64 0, .str (bs []), .int .i64 0, .slx] [(3, .ex 37 true (List.map GTerm.c []))]), (9, .cells [.int .i64 g239_.gOp, .str g239_.gName, .int .i64 g239_.gNum, .int .i64 g239_.gMany] []), (10, .cells [.int .i64 c248_.gKind, .str c248_.gName, .int .i64 c248_.gNum, .slx] [(3, .ex 37 true (List.map GTerm.c c248_.gKids))])], []⟩) [] [0, 1, 2, 6, 9, 10, 11] [6, 9, 10] [] (by kernel_rfl) ?_
                            refine Wc.skip ?_
                            refine Wc.seq ?_
                            refine Wc.block ?_
                            refine Wc.seq ?_
                            obtain ⟨l251_, h273, h271⟩ := obind h271
                            refine Wc.region [{}, {}, {}, {}, { r := some (.v (.tup [.agg [.int .i64 l251_.1.gKind, .str l251_.1.gName, .int .i64 l251_.1.gNum, .slx], .int .i64 l251_.2.1, .bool l251_.2.2]) [(3, .ex 37 true (List.map GTerm.c l251_.1.gKids))]) }, { tk := [96] }, { tk := [91] }, {}, {}, {}, { tk := [97] }] [] [0, 1, 2, 6, 9, 10, 11, 12, 13, 14] [6, 9, 10, 12] [] ⟨[(0, (.v (.sl (List.map GIns.c i235_)), [])), (1, (.v (.int .i64 b246_), [])), (2, (.v (.int .i64 b237_), [])), (6, (.ptr 6 0, [])), (9, (.ptr 9 0, [])), (10, (.ptr 10 0, [])), (11, (.v (.int .i64 b247_), [])), (12, (.ptr 12 0, [])), (13, (.v (.int .i64 l251_.2.1), [])), (14, (.v (.bool l251_.2.2), []))], [(6, .cells [.int .i64 0, .str (bs []), .int .i64 0, .slx] [(3, .ex 37 true (List.map GTerm.c []))]), (9, .cells [.int .i64 g239_.gOp, .str g239_.gName, .int .i64 g239_.gNum, .int .i64 g239_.gMany] []), (10, .cells [.int .i64 c248_.gKind, .str c248_.gName, .int .i64 c248_.gNum, .slx] [(3, .ex 37 true (List.map GTerm.c c248_.gKids))]), (12, .cells [.int .i64 l251_.1.gKind, .str l251_.1.gName, .int .i64 l251_.1.gNum, .slx] [(3, .ex 37 true (List.map GTerm.c l251_.1.gKids))])], []⟩ _ (by kernel_rfl) (.cons (ih_pimpl_termFrom_d h273) .nil) ?_
                            refine Wc.seq ?_
                            refine Wc.seq ?_
                            refine Wc.region [] [] [0, 1, 2, 6, 9, 10, 11, 12, 13, 101] [6, 9, 10, 12] [] ⟨[(0, (.v (.sl (List.map GIns.c i235_)), [])), (1, (.v (.int .i64 b246_), [])), (2, (.v (.int .i64 b237_), [])), (6, (.ptr 6 0, [])), (9, (.ptr 9 0, [])), (10, (.ptr 10 0, [])), (11, (.v (.int .i64 b247_), [])), (12, (.ptr 12 0, [])), (13, (.v (.int .i64 l251_.2.1), [])), (101, (.v (.bool (!l251_.2.2)), []))], [(6, .cells [.int .i64 0, .str (bs []), .int .i64 0, .slx] [(3, .ex 37 true (List.map GTerm.c []))]), (9, .cells [.int .i64 g239_.gOp, .str g239_.gName, .int .i64 g239_.gNum, .int .i64 g239_.gMany] []), (10, .cells [.int .i64 c248_.gKind, .str c248_.gName, .int .i64 c248_.gNum, .slx] [(3, .ex 37 true (List.map GTerm.c c248_.gKids))]), (12, .cells [.int .i64 l251_.1.gKind, .str l251_.1.gName, .int .i64 l251_.1.gNum, .slx] [(3, .ex 37 true (List.map GTerm.c l251_.1.gKids))])], []⟩ _ (by kernel_rfl) .nil ?_
                            rcases oif h271 with ⟨h274, h271⟩ | ⟨h274, h271⟩
                            · refine Wc.condT h274 (by kernel_rfl) ?_
                              refine Wc.seq ?_
                              refine Wc.region [{}, {}, { tk := [102] }] [] [6, 7, 8] [6] [] ⟨[(6, (.ptr 6 0, [])), (7, (.v (.int .i64 b246_), [])), (8, (.v (.bool false), []))], [(6, .cells [.int .i64 0, .str (bs []), .int .i64 0, .sl (List.map GTerm.c [])] [(3, .app 37)])], []⟩ _ (by kernel_rfl) .nil ?_
                              refine Wc.fix (st' := ⟨[(6, (.ptr 6 0, [])), (7, (.v (.int .i64 b246_), [])), (8, (.v (.bool false), []))], [(6, .cells [.int .i64 0, .str (bs []), .int .i64 0, .slx] [(3, .ex 37 true (List.map GTerm.c []))])], []⟩) [.ow (.b 6 3) true] [6, 7, 8] [6] [] (by kernel_rfl) ?_
                              refine Wc.ret ?_
                              obtain rfl := Option.some.inj h271
                              obtain rfl := Option.some.inj h
                              exact ⟨.inl rfl, by kernel_rfl, by kernel_rfl⟩
                            · refine Wc.condF h274 (by kernel_rfl) ?_
                              refine Wc.fix (st' := ⟨[(0, (.v (.sl (List.map GIns.c i235_)), [])), (2, (.v (.int .i64 b237_), [])), (6, (.ptr 6 0, [])), (9, (.ptr 9 0, [])), (10, (.ptr 10 0, [])), (11, (.v (.int .i64 b247_), [])), (12, (.ptr 12 0, [])), (13, (.v (.int .i64 l251_.2.1), []))], [(6, .cells [.int .i64 0, .str (bs []), .int .i64 0, .slx] [(3, .ex 37 true (List.map GTerm.c []))]), (9, .cells [.int .i64 g239_.gOp, .str g239_.gName, .int .i64 g239_.gNum, .int .i64 g239_.gMany] []), (10, .cells [.int .i64 c248_.gKind, .str c248_.gName, .int .i64 c248_.gNum, .slx] [(3, .ex 37 true (List.map GTerm.c c248_.gKids))]), (12, .cells [.int .i64 l251_.1.gKind, .str l251_.1.gName, .int .i64 l251_.1.gNum, .slx] [(3, .ex 37 true (List.map GTerm.c l251_.1.gKids))])], []⟩) [] [0, 2, 6, 9, 10, 11, 12, 13] [6, 9, 10, 12] [] (by kernel_rfl) ?_
                              refine Wc.skip ?_
                              refine Wc.seq ?_
                              obtain ⟨h275, h271⟩ := oguard h271
                              refine Wc.region [{}, { md := 1 }, { md := 1 }, { c := some (List.map GTerm.c [GTerm.mk l251_.1.gKind l251_.1.gName l251_.1.gNum l251_.1.gKids]), tk := [106], md := 2 }, { c := some (List.map GTerm.c (c248_.gKids ++ [GTerm.mk l251_.1.gKind l251_.1.gName l251_.1.gNum l251_.1.gKids])), tk := [105, 107], md := 2 }, {}, { tk := [108] }] [] [0, 2, 6, 9, 10, 11, 13] [6, 9, 10] [] ⟨[(0, (.v (.sl (List.map GIns.c i235_)), [])), (2, (.v (.int .i64 b237_), [])), (6, (.ptr 6 0, [])), (9, (.ptr 9 0, [])), (10, (.ptr 10 0, [])), (11, (.v (.int .i64 b247_), [])), (13, (.v (.int .i64 l251_.2.1), []))], [(6, .cells [.int .i64 0, .str (bs []), .int .i64 0, .slx] [(3, .ex 37 true (List.map GTerm.c []))]), (9, .cells [.int .i64 g239_.gOp, .str g239_.gName, .int .i64 g239_.gNum, .int .i64 g239_.gMany] []), (10, .cells [.int .i64 c248_.gKind, .str c248_.gName, .int .i64 c248_.gNum, .slx] [(3, .ex 37 true (List.map GTerm.c (c248_.gKids ++ [GTerm.mk l251_.1.gKind l251_.1.gName l251_.1.gNum l251_.1.gKids])))])], []⟩ _ (by kernel_rfl) (.cons (cl_cons (c := GTerm.c) (x := GTerm.mk l251_.1.gKind l251_.1.gName l251_.1.gNum l251_.1.gKids) (GTerm.c_eq (GTerm.mk l251_.1.gKind l251_.1.gName l251_.1.gNum l251_.1.gKids)) (cl_nil GTerm.c)) (.cons (app_re2 GTerm.c c248_.gKids [GTerm.mk l251_.1.gKind l251_.1.gName l251_.1.gNum l251_.1.gKids]) (.cons (app_obl2 (c := GTerm.c) (xs := c248_.gKids) (ys := [GTerm.mk l251_.1.gKind l251_.1.gName l251_.1.gNum l251_.1.gKids]) GTerm.c_len h275) .nil))) ?_
                              refine Wc.region [] [] [0, 1, 2, 6, 9, 10, 11] [6, 9, 10] [] ⟨[(0, (.v (.sl (List.map GIns.c i235_)), [])), (1, (.v (.int .i64 l251_.2.1), [])), (2, (.v (.int .i64 b237_), [])), (6, (.ptr 6 0, [])), (9, (.ptr 9 0, [])), (10, (.ptr 10 0, [])), (11, (.v (.int .i64 b247_), []))], [(6, .cells [.int .i64 0, .str (bs []), .int .i64 0, .slx] [(3, .ex 37 true (List.map GTerm.c []))]), (9, .cells [.int .i64 g239_.gOp, .str g239_.gName, .int .i64 g239_.gNum, .int .i64 g239_.gMany] []), (10, .cells [.int .i64 c248_.gKind, .str c248_.gName, .int .i64 c248_.gNum, .slx] [(3, .ex 37 true (List.map GTerm.c (c248_.gKids ++ [GTerm.mk l251_.1.gKind l251_.1.gName l251_.1.gNum l251_.1.gKids])))])], []⟩ _ (by kernel_rfl) .nil ?_
                              refine Wc.region [] [] [0, 1, 2, 6, 9, 10, 11] [6, 9, 10] [] ⟨[(0, (.v (.sl (List.map GIns.c i235_)), [])), (1, (.v (.int .i64 l251_.2.1), [])), (2, (.v (.int .i64 b237_), [])), (6, (.ptr 6 0, [])), (9, (.ptr 9 0, [])), (10, (.ptr 10 0, [])), (11, (.v (.int .i64 (wr.i64 (b247_ + 1))), []))], [(6, .cells [.int .i64 0, .str (bs []), .int .i64 0, .slx] [(3, .ex 37 true (List.map GTerm.c []))]), (9, .cells [.int .i64 g239_.gOp, .str g239_.gName, .int .i64 g239_.gNum, .int .i64 g239_.gMany] []), (10, .cells [.int .i64 c248_.gKind, .str c248_.gName, .int .i64 c248_.gNum, .slx] [(3, .ex 37 true (List.map GTerm.c (c248_.gKids ++ [GTerm.mk l251_.1.gKind l251_.1.gName l251_.1.gNum l251_.1.gKids])))])], []⟩ _ (by kernel_rfl) .nil ?_
                              exact ⟨_, Nat.lt_succ_self _, _, _, _, rfl, h271⟩
                          · refine Wc.condF h272 (by kernel_rfl) ?_
                            refine Wc.fix (st' := ⟨[(1, (.v (.int .i64 b246_), [])), (6, (.ptr 6 0, [])), (10, (.ptr 10 0, []))], [(6, .cells [.int .i64 0, .str (bs []), .int .i64 0, .slx] [(3, .ex 37 true (List.map GTerm.c []))]), (10, .cells [.int .i64 c248_.gKind, .str c248_.gName, .int .i64 c248_.gNum, .slx] [(3, .ex 37 true (List.map GTerm.c c248_.gKids))])], []⟩) [] [1, 6, 10] [6, 10] [] (by kernel_rfl) ?_
                            refine Wc.exit ?_
                            obtain rfl := Option.some.inj h271
                            exact ⟨_, _, rfl, rfl⟩
                      · rintro st ⟨b249_, c250_, rfl, rfl⟩
                        refine Wc.seq ?_
                        refine Wc.region [{ md := 1 }, {}, { tk := [111] }] [] [6, 7, 8] [6] [] ⟨[(6, (.ptr 6 0, [])), (7, (.v (.int .i64 b249_), [])), (8, (.v (.bool true), []))], [(6, .cells [.int .i64 c250_.gKind, .str c250_.gName, .int .i64 c250_.gNum, .slx] [(3, .ex 37 true (List.map GTerm.c c250_.gKids))])], []⟩ _ (by kernel_rfl) .nil ?_
                        refine Wc.ret ?_
                        obtain rfl := Option.some.inj h
                        exact ⟨.inl rfl, by kernel_rfl, by kernel_rfl⟩
theorem cimpl_termFrom_d {k : Nat} {i235_ : List GIns} {b236_ : Int} {b237_ : Int} {r : GTerm × Int × Bool} (h : pimpl_termFrom_d k i235_ b236_ b237_ = some r) : FnO Try.prog 68 [.v (.sl (List.map GIns.c i235_)) [], .v (.int .i64 b236_) [], .v (.int .i64 b237_) []] (.v (.tup [.agg [.int .i64 r.1.gKind, .str r.1.gName, .int .i64 r.1.gNum, .slx], .int .i64 r.2.1, .bool r.2.2]) [(3, .ex 37 true (List.map GTerm.c r.1.gKids))]) [] := (all_pimpl_termFrom_d k) h

def plaws_toInsS_d_L1 (k : Nat) (i227_ : List GIns) : Nat → (List GIns) → Int → Option (Out (List GIns) (List GIns))
  | 0, _, _ => none
  | m + 1, i228_, b229_ =>
    if (decide (b229_ < (i227_.length : Int))) = true then
      (at' i227_ b229_).bind fun g231_ =>
      (plaws_toIns k g231_).bind fun g232_ =>
      (at' i228_ b229_).bind fun g233_ =>
      plaws_toInsS_d_L1 k i227_ m (i228_.set ((b229_).toNat) g232_) (wr.i64 (b229_ + 1))
    else
      some (.done i228_)
/-- laws.toInsS -/
def plaws_toInsS_d (k : Nat) (i227_ : List GIns) : Option (List GIns) :=
  if 0 ≤ (i227_.length : Int) ∧ (i227_.length : Int) ≤ 1073741824 then
    (plaws_toInsS_d_L1 k i227_ k (List.replicate ((i227_.length : Int)).toNat (GIns.mk 0 (bs []) 0 0)) 0).bind fun out1 => match out1 with
    | .ret r => some r
    | .done i230_ =>
      some i230_
  else none
theorem claws_toInsS_d {k : Nat} {i227_ : List GIns} {r : (List GIns)} (h : plaws_toInsS_d k i227_ = some r) : FnO Try.prog 25 [.v (.sl (List.map GIns.c i227_)) []] (.v (.slx) [(0, .ex 97 true (List.map GIns.c r))]) [] := by
  refine FnO.of Try.func25 (rfl : Try.f25.body = some _) (Nat.le_of_ble_eq_true (by kernel_rfl)) (Nat.le_of_ble_eq_true (by kernel_rfl)) ?_
  intro w0 X0 Fin pv0 pb
  unfold plaws_toInsS_d at h
  refine Wc.seq ?_
  refine Wc.region [] [] [0] [] [] ⟨[(0, (.v (.sl (List.map GIns.c i227_)), []))], [], []⟩ _ (by kernel_rfl) .nil ?_
  refine Wc.seq ?_
  obtain ⟨h252, h⟩ := oguard h
  refine Wc.region [{}, { v := some (.int .i64 (i227_.length : Int)) }, { c := some (List.map GIns.c (List.replicate ((i227_.length : Int)).toNat (GIns.mk 0 (bs []) 0 0))) }, { tk := [7] }] [] [0, 3] [] [] ⟨[(0, (.v (.sl (List.map GIns.c i227_)), [])), (3, (.v (.slx), [(0, .ex 97 true (List.map GIns.c (List.replicate ((i227_.length : Int)).toNat (GIns.mk 0 (bs []) 0 0))))]))], [], []⟩ _ (by kernel_rfl) (.cons (len_obl GIns.c i227_) (.cons (rep_re (c := GIns.c) (z := (GIns.mk 0 (bs []) 0 0)) (GIns.c_eq (GIns.mk 0 (bs []) 0 0)) ((i227_.length : Int)).toNat) (.cons (ms_obl h252) .nil))) ?_
  refine Wc.seq ?_
  refine Wc.seq ?_
  refine Wc.region [] [] [0, 3, 4] [] [] ⟨[(0, (.v (.sl (List.map GIns.c i227_)), [])), (3, (.v (.slx), [(0, .ex 97 true (List.map GIns.c (List.replicate ((i227_.length : Int)).toNat (GIns.mk 0 (bs []) 0 0))))])), (4, (.v (.int .i64 0), []))], [], []⟩ _ (by kernel_rfl) .nil ?_
  obtain ⟨out1, h253, h⟩ := obind h
  refine Wc.lastJ (fun st => ∃ (i230_ : List GIns), out1 = .done i230_ ∧ st = ⟨[(3, (.v (.slx), [(0, .ex 97 true (List.map GIns.c i230_))]))], [], []⟩) ?_ ?_
  · refine Wc.block ?_
    refine Wc.loop (fun m st => ∃ (i228_ : List GIns) (b229_ : Int), st = ⟨[(0, (.v (.sl (List.map GIns.c i227_)), [])), (3, (.v (.slx), [(0, .ex 97 true (List.map GIns.c i228_))])), (4, (.v (.int .i64 b229_), []))], [], []⟩ ∧ plaws_toInsS_d_L1 k i227_ m i228_ b229_ = some out1) ?_ k ⟨_, _, rfl, h253⟩
    rintro m st ⟨i228_, b229_, rfl, h253⟩
    cases m with
    | zero => exact (onone h253).elim
    | succ m =>
      refine Wc.seq ?_
      refine Wc.seq ?_
      refine Wc.region [{}, {}, { v := some (.int .i64 (i227_.length : Int)) }] [] [0, 3, 4, 11] [] [] ⟨[(0, (.v (.sl (List.map GIns.c i227_)), [])), (3, (.v (.slx), [(0, .ex 97 true (List.map GIns.c i228_))])), (4, (.v (.int .i64 b229_), [])), (11, (.v (.bool (decide (b229_ < (i227_.length : Int)))), []))], [], []⟩ _ (by kernel_rfl) (.cons (len_obl GIns.c i227_) .nil) ?_
      rcases oif h253 with ⟨h254, h253⟩ | ⟨h254, h253⟩
      · refine Wc.condT h254 (by kernel_rfl) ?_
        refine Wc.fix (st' := ⟨[(0, (.v (.sl (List.map GIns.c i227_)), [])), (3, (.v (.slx), [(0, .ex 97 true (List.map GIns.c i228_))])), (4, (.v (.int .i64 b229_), []))], [], []⟩) [] [0, 3, 4] [] [] (by kernel_rfl) ?_
        refine Wc.skip ?_
        refine Wc.seq ?_
        refine Wc.block ?_
        obtain ⟨g231_, h255, h253⟩ := obind h253
        obtain ⟨g232_, h256, h253⟩ := obind h253
        obtain ⟨g233_, h257, h253⟩ := obind h253
        refine Wc.region [{}, {}, {}, {}, { v := some (.vptr [.int .i64 g231_.gOp, .str g231_.gName, .int .i64 g231_.gNum, .int .i64 g231_.gMany]) }, {}, { r := some (.v (.agg [.int .i64 g232_.gOp, .str g232_.gName, .int .i64 g232_.gNum, .int .i64 g232_.gMany]) []) }, {}, { c := some (List.map GIns.c (i228_.set ((b229_).toNat) g232_)) }] [] [0, 3, 4] [] [] ⟨[(0, (.v (.sl (List.map GIns.c i227_)), [])), (3, (.v (.slx), [(0, .ex 97 true (List.map GIns.c (i228_.set ((b229_).toNat) g232_)))])), (4, (.v (.int .i64 b229_), []))], [], []⟩ _ (by kernel_rfl) (.cons (at_obl (c := GIns.c) (GIns.c_eq g231_) GIns.c_len h255) (.cons (len_ok 4 [.int .i64 g231_.gOp, .str g231_.gName, .int .i64 g231_.gNum, .int .i64 g231_.gMany]) (.cons (claws_toIns h256) (.cons (ix_obl (c := GIns.c) GIns.c_len h257) (.cons (mod_obl (off := 0) (new := [.int .i64 g232_.gOp, .str g232_.gName, .int .i64 g232_.gNum, .int .i64 g232_.gMany]) (c := GIns.c) (GIns.c_eq g233_) (GIns.c_eq g232_) (at'_spec h257).2 rfl) (.cons (st_obl (sz := 4) (off := 0) (s := 4) (c := GIns.c) (GIns.c_eq g233_) (at'_spec h257).2 rfl (Nat.le_of_ble_eq_true rfl)) .nil)))))) ?_
        refine Wc.region [] [] [0, 3, 4] [] [] ⟨[(0, (.v (.sl (List.map GIns.c i227_)), [])), (3, (.v (.slx), [(0, .ex 97 true (List.map GIns.c (i228_.set ((b229_).toNat) g232_)))])), (4, (.v (.int .i64 (wr.i64 (b229_ + 1))), []))], [], []⟩ _ (by kernel_rfl) .nil ?_
        exact ⟨_, Nat.lt_succ_self _, _, _, rfl, h253⟩
      · refine Wc.condF h254 (by kernel_rfl) ?_
        refine Wc.fix (st' := ⟨[(3, (.v (.slx), [(0, .ex 97 true (List.map GIns.c i228_))]))], [], []⟩) [] [3] [] [] (by kernel_rfl) ?_
        refine Wc.exit ?_
        obtain rfl := Option.some.inj h253
        exact ⟨_, rfl, rfl⟩
  · rintro st ⟨i230_, rfl, rfl⟩
    refine Wc.seq ?_
    refine Wc.region [{ tk := [3] }, { tk := [22] }] [] [2] [] [] ⟨[(2, (.v (.slx), [(0, .ex 97 true (List.map GIns.c i230_))]))], [], []⟩ _ (by kernel_rfl) .nil ?_
    refine Wc.ret ?_
    obtain rfl := Option.some.inj h
    exact ⟨.inl rfl, by kernel_rfl, by kernel_rfl⟩

/-- impl.TermOf -/
def pimpl_TermOf_d (k : Nat) (i224_ : List GIns) : Option (GTerm × Bool) :=
  (pimpl_termFrom_d k i224_ 0 1).bind fun l225_ =>
  if (!l225_.2.2) = true then
    some (GTerm.mk 0 (bs []) 0 [], false)
  else
    if (l225_.2.1 != (i224_.length : Int)) = true then
      some (GTerm.mk 0 (bs []) 0 [], false)
    else
      (pimpl_TermOk k (GTerm.mk l225_.1.gKind l225_.1.gName l225_.1.gNum l225_.1.gKids)).bind fun d226_ =>
      if (!d226_) = true then
        some (GTerm.mk 0 (bs []) 0 [], false)
      else
        some (GTerm.mk l225_.1.gKind l225_.1.gName l225_.1.gNum l225_.1.gKids, true)
theorem cimpl_TermOf_d {k : Nat} {i224_ : List GIns} {r : GTerm × Bool} (h : pimpl_TermOf_d k i224_ = some r) : FnO Try.prog 26 [.v (.sl (List.map GIns.c i224_)) []] (.v (.tup [.agg [.int .i64 r.1.gKind, .str r.1.gName, .int .i64 r.1.gNum, .slx], .bool r.2]) [(3, .ex 37 true (List.map GTerm.c r.1.gKids))]) [] := by
  refine FnO.of Try.func26 (rfl : Try.f26.body = some _) (Nat.le_of_ble_eq_true (by kernel_rfl)) (Nat.le_of_ble_eq_true (by kernel_rfl)) ?_
  intro w0 X0 Fin pv0 pb
  unfold pimpl_TermOf_d at h
  refine Wc.seq ?_
  refine Wc.region [] [] [0, 2] [2] [] ⟨[(0, (.v (.sl (List.map GIns.c i224_)), [])), (2, (.ptr 2 0, []))], [(2, .cells [.int .i64 0, .str (bs []), .int .i64 0, .sl (List.map GTerm.c [])] [(3, .app 37)])], []⟩ _ (by kernel_rfl) .nil ?_
  refine Wc.seq ?_
  obtain ⟨l225_, h252, h⟩ := obind h
  refine Wc.region [{}, { r := some (.v (.tup [.agg [.int .i64 l225_.1.gKind, .str l225_.1.gName, .int .i64 l225_.1.gNum, .slx], .int .i64 l225_.2.1, .bool l225_.2.2]) [(3, .ex 37 true (List.map GTerm.c l225_.1.gKids))]) }, { tk := [9] }, { tk := [7] }, {}, {}, {}, { tk := [10] }] [] [0, 2, 4, 5, 6] [2, 4] [] ⟨[(0, (.v (.sl (List.map GIns.c i224_)), [])), (2, (.ptr 2 0, [])), (4, (.ptr 4 0, [])), (5, (.v (.int .i64 l225_.2.1), [])), (6, (.v (.bool l225_.2.2), []))], [(2, .cells [.int .i64 0, .str (bs []), .int .i64 0, .sl (List.map GTerm.c [])] [(3, .app 37)]), (4, .cells [.int .i64 l225_.1.gKind, .str l225_.1.gName, .int .i64 l225_.1.gNum, .slx] [(3, .ex 37 true (List.map GTerm.c l225_.1.gKids))])], []⟩ _ (by kernel_rfl) (.cons (cimpl_termFrom_d h252) .nil) ?_
  refine Wc.seq ?_
  refine Wc.seq ?_
  rcases oif h with ⟨h253, h⟩ | ⟨h253, h⟩
  · refine Wc.region [{}, {}, { re := some (.bool true) }] [] [2, 4, 25] [2, 4] [] ⟨[(2, (.ptr 2 0, [])), (4, (.ptr 4 0, [])), (25, (.v (.bool true), []))], [(2, .cells [.int .i64 0, .str (bs []), .int .i64 0, .sl (List.map GTerm.c [])] [(3, .app 37)]), (4, .cells [.int .i64 l225_.1.gKind, .str l225_.1.gName, .int .i64 l225_.1.gNum, .slx] [(3, .ex 37 true (List.map GTerm.c l225_.1.gKids))])], []⟩ _ (by kernel_rfl) (.cons (congrArg AV.bool h253) .nil) ?_
    refine Wc.condT rfl (by kernel_rfl) ?_
    refine Wc.seq ?_
    refine Wc.region [{}, { tk := [26] }] [] [2, 3] [2] [] ⟨[(2, (.ptr 2 0, [])), (3, (.v (.bool false), []))], [(2, .cells [.int .i64 0, .str (bs []), .int .i64 0, .sl (List.map GTerm.c [])] [(3, .app 37)])], []⟩ _ (by kernel_rfl) .nil ?_
    refine Wc.fix (st' := ⟨[(2, (.ptr 2 0, [])), (3, (.v (.bool false), []))], [(2, .cells [.int .i64 0, .str (bs []), .int .i64 0, .slx] [(3, .ex 37 true (List.map GTerm.c []))])], []⟩) [.ow (.b 2 3) true] [2, 3] [2] [] (by kernel_rfl) ?_
    refine Wc.ret ?_
    obtain rfl := Option.some.inj h
    exact ⟨.inl rfl, by kernel_rfl, by kernel_rfl⟩
  · rcases oif h with ⟨h254, h⟩ | ⟨h254, h⟩
    · refine Wc.region [{}, {}, { re := some (.bool false) }, {}, {}, { v := some (.int .i64 (i224_.length : Int)) }, {}, {}, { re := some (.bool true) }] [] [2, 4, 25] [2, 4] [] ⟨[(2, (.ptr 2 0, [])), (4, (.ptr 4 0, [])), (25, (.v (.bool true), []))], [(2, .cells [.int .i64 0, .str (bs []), .int .i64 0, .sl (List.map GTerm.c [])] [(3, .app 37)]), (4, .cells [.int .i64 l225_.1.gKind, .str l225_.1.gName, .int .i64 l225_.1.gNum, .slx] [(3, .ex 37 true (List.map GTerm.c l225_.1.gKids))])], []⟩ _ (by kernel_rfl) (.cons (congrArg AV.bool h253) (.cons (len_obl GIns.c i224_) (.cons (congrArg AV.bool h254) .nil))) ?_
      refine Wc.condT rfl (by kernel_rfl) ?_
      refine Wc.seq ?_
      refine Wc.region [{}, { tk := [26] }] [] [2, 3] [2] [] ⟨[(2, (.ptr 2 0, [])), (3, (.v (.bool false), []))], [(2, .cells [.int .i64 0, .str (bs []), .int .i64 0, .sl (List.map GTerm.c [])] [(3, .app 37)])], []⟩ _ (by kernel_rfl) .nil ?_
      refine Wc.fix (st' := ⟨[(2, (.ptr 2 0, [])), (3, (.v (.bool false), []))], [(2, .cells [.int .i64 0, .str (bs []), .int .i64 0, .slx] [(3, .ex 37 true (List.map GTerm.c []))])], []⟩) [.ow (.b 2 3) true] [2, 3] [2] [] (by kernel_rfl) ?_
      refine Wc.ret ?_
      obtain rfl := Option.some.inj h
      exact ⟨.inl rfl, by kernel_rfl, by kernel_rfl⟩
    · obtain ⟨d226_, h255, h⟩ := obind h
      refine Wc.region [{}, {}, { re := some (.bool false) }, {}, {}, { v := some (.int .i64 (i224_.length : Int)) }, {}, {}, { re := some (.bool false) }, {}, { r := some (.v (.bool d226_) []) }] [] [2, 4, 25] [2, 4] [] ⟨[(2, (.ptr 2 0, [])), (4, (.ptr 4 0, [])), (25, (.v (.bool (!d226_)), []))], [(2, .cells [.int .i64 0, .str (bs []), .int .i64 0, .sl (List.map GTerm.c [])] [(3, .app 37)]), (4, .cells [.int .i64 l225_.1.gKind, .str l225_.1.gName, .int .i64 l225_.1.gNum, .slx] [(3, .ex 37 true (List.map GTerm.c l225_.1.gKids))])], []⟩ _ (by kernel_rfl) (.cons (congrArg AV.bool h253) (.cons (len_obl GIns.c i224_) (.cons (congrArg AV.bool h254) (.cons (cimpl_TermOk h255) .nil)))) ?_
      rcases oif h with ⟨h256, h⟩ | ⟨h256, h⟩
      · refine Wc.condT h256 (by kernel_rfl) ?_
        refine Wc.seq ?_
        refine Wc.region [{}, { tk := [26] }] [] [2, 3] [2] [] ⟨[(2, (.ptr 2 0, [])), (3, (.v (.bool false), []))], [(2, .cells [.int .i64 0, .str (bs []), .int .i64 0, .sl (List.map GTerm.c [])] [(3, .app 37)])], []⟩ _ (by kernel_rfl) .nil ?_
        refine Wc.fix (st' := ⟨[(2, (.ptr 2 0, [])), (3, (.v (.bool false), []))], [(2, .cells [.int .i64 0, .str (bs []), .int .i64 0, .slx] [(3, .ex 37 true (List.map GTerm.c []))])], []⟩) [.ow (.b 2 3) true] [2, 3] [2] [] (by kernel_rfl) ?_
        refine Wc.ret ?_
        obtain rfl := Option.some.inj h
        exact ⟨.inl rfl, by kernel_rfl, by kernel_rfl⟩
      · refine Wc.condF h256 (by kernel_rfl) ?_
        refine Wc.fix (st' := ⟨[(2, (.ptr 2 0, [])), (4, (.ptr 4 0, []))], [(2, .cells [.int .i64 0, .str (bs []), .int .i64 0, .sl (List.map GTerm.c [])] [(3, .app 37)]), (4, .cells [.int .i64 l225_.1.gKind, .str l225_.1.gName, .int .i64 l225_.1.gNum, .slx] [(3, .ex 37 true (List.map GTerm.c l225_.1.gKids))])], []⟩) [] [2, 4] [2, 4] [] (by kernel_rfl) ?_
        refine Wc.skip ?_
        refine Wc.seq ?_
        refine Wc.region [{ md := 1 }, { tk := [27] }] [] [2, 3] [2] [] ⟨[(2, (.ptr 2 0, [])), (3, (.v (.bool true), []))], [(2, .cells [.int .i64 l225_.1.gKind, .str l225_.1.gName, .int .i64 l225_.1.gNum, .slx] [(3, .ex 37 true (List.map GTerm.c l225_.1.gKids))])], []⟩ _ (by kernel_rfl) .nil ?_
        refine Wc.ret ?_
        obtain rfl := Option.some.inj h
        exact ⟨.inl rfl, by kernel_rfl, by kernel_rfl⟩

/-- laws.FnExactTermOf -/
def plaws_FnExactTermOf (k : Nat) (i216_ : List GIns) : Option Bool :=
  (plaws_szInsS k i216_ 1048576).bind fun b217_ =>
  if (decide (b217_ < 0)) = true then
    some true
  else
    (plaws_toInsS k i216_).bind fun m218_ =>
    (pspec_TermOf k m218_).bind fun n219_ =>
    (plaws_toInsS_d k i216_).bind fun m220_ =>
    (pimpl_TermOf_d k m220_).bind fun n221_ =>
    (plaws_eqTerm k (GTerm.mk n221_.1.gKind n221_.1.gName n221_.1.gNum n221_.1.gKids) (GTerm.mk n219_.1.gKind n219_.1.gName n219_.1.gNum n219_.1.gKids)).bind fun d222_ =>
    if (!d222_) = true then
      some false
    else
      if (!(n221_.2 == n219_.2)) = true then
        some false
      else
        (plaws_toInsS k i216_).bind fun m223_ =>
        (plaws_eqInsS k m220_ m223_).bind fun d224_ =>
        if (!d224_) = true then
          some false
        else
          (plaws_markInsS k m220_ 1).bind fun o225_ =>
          if (decide (o225_.2 < 0)) = true then
            some false
          else
            (plaws_eqTerm k (GTerm.mk n221_.1.gKind n221_.1.gName n221_.1.gNum n221_.1.gKids) (GTerm.mk n219_.1.gKind n219_.1.gName n219_.1.gNum n219_.1.gKids)).bind fun d226_ =>
            if (!d226_) = true then
              some false
            else
              if (!(n221_.2 == n219_.2)) = true then
                some false
              else
                (plaws_markTerm k (GTerm.mk n221_.1.gKind n221_.1.gName n221_.1.gNum n221_.1.gKids) 1).bind fun j227_ =>
                (plaws_heldTerm k (GTerm.mk n221_.1.gKind n221_.1.gName n221_.1.gNum j227_.1.gKids) 1).bind fun b228_ =>
                if (decide (b228_ < 0)) = true then
                  some false
                else
                  if (b228_ != j227_.2) = true then
                    some false
                  else
                    (plaws_toInsS k i216_).bind fun m229_ =>
                    (pimpl_TermOf_d k m229_).bind fun n230_ =>
                    (plaws_eqTerm k (GTerm.mk n230_.1.gKind n230_.1.gName n230_.1.gNum n230_.1.gKids) (GTerm.mk n219_.1.gKind n219_.1.gName n219_.1.gNum n219_.1.gKids)).bind fun d231_ =>
                    if (!d231_) = true then
                      some false
                    else
                      if (!(n230_.2 == n219_.2)) = true then
                        some false
                      else
                        (plaws_heldTerm k (GTerm.mk n221_.1.gKind n221_.1.gName n221_.1.gNum j227_.1.gKids) 1).bind fun b232_ =>
                        if (decide (b232_ < 0)) = true then
                          some false
                        else
                          if (b232_ != j227_.2) = true then
                            some false
                          else
                            some true
set_option maxHeartbeats 4000000 in
theorem claws_FnExactTermOf {k : Nat} {i216_ : List GIns} {r : Bool} (h : plaws_FnExactTermOf k i216_ = some r) : FnO Try.prog 5 [.v (.sl (List.map GIns.c i216_)) []] (.v (.bool r) []) [] := by
  refine FnO.of Try.func5 (rfl : Try.f5.body = some _) (Nat.le_of_ble_eq_true (by kernel_rfl)) (Nat.le_of_ble_eq_true (by kernel_rfl)) ?_
  intro w0 X0 Fin pv0 pb
  unfold plaws_FnExactTermOf at h
  refine Wc.seq ?_
  refine Wc.region [] [] [0] [] [] ⟨[(0, (.v (.sl (List.map GIns.c i216_)), []))], [], []⟩ _ (by kernel_rfl) .nil ?_
  refine Wc.seq ?_
  refine Wc.region [] [] [0, 3] [] [] ⟨[(0, (.v (.sl (List.map GIns.c i216_)), [])), (3, (.v (.int .i64 1048576), []))], [], []⟩ _ (by kernel_rfl) .nil ?_
  refine Wc.seq ?_
  obtain ⟨b217_, h242, h⟩ := obind h
  refine Wc.region [{}, {}, { r := some (.v (.int .i64 b217_) []) }] [] [0, 3] [] [] ⟨[(0, (.v (.sl (List.map GIns.c i216_)), [])), (3, (.v (.int .i64 b217_), []))], [], []⟩ _ (by kernel_rfl) (.cons (claws_szInsS h242) .nil) ?_
  refine Wc.seq ?_
  refine Wc.seq ?_
  refine Wc.region [] [] [0, 18] [] [] ⟨[(0, (.v (.sl (List.map GIns.c i216_)), [])), (18, (.v (.bool (decide (b217_ < 0))), []))], [], []⟩ _ (by kernel_rfl) .nil ?_
  rcases oif h with ⟨h243, h⟩ | ⟨h243, h⟩
  · refine Wc.condT h243 (by kernel_rfl) ?_
    refine Wc.seq ?_
    refine Wc.region [] [] [2] [] [] ⟨[(2, (.v (.bool true), []))], [], []⟩ _ (by kernel_rfl) .nil ?_
    refine Wc.ret ?_
    obtain rfl := Option.some.inj h
    exact ⟨.inl rfl, by kernel_rfl, by kernel_rfl⟩
  · refine Wc.condF h243 (by kernel_rfl) ?_
    refine Wc.fix (st' := ⟨[(0, (.v (.sl (List.map GIns.c i216_)), []))], [], []⟩) [] [0] [] [] (by kernel_rfl) ?_
    refine Wc.skip ?_
    refine Wc.seq ?_
    obtain ⟨m218_, h244, h⟩ := obind h
    obtain ⟨n219_, h245, h⟩ := obind h
    refine Wc.region [{}, { r := some (.v (.sl (List.map GIns.c m218_)) []) }, { r := some (.v (.tup [.agg [.int .i64 n219_.1.gKind, .str n219_.1.gName, .int .i64 n219_.1.gNum, .sl (List.map GTerm.c n219_.1.gKids)], .bool n219_.2]) [(3, .app 37)]) }, { tk := [22] }, { tk := [19] }, {}, {}, { tk := [23] }] [] [0, 4, 5] [4] [] ⟨[(0, (.v (.sl (List.map GIns.c i216_)), [])), (4, (.ptr 4 0, [])), (5, (.v (.bool n219_.2), []))], [(4, .cells [.int .i64 n219_.1.gKind, .str n219_.1.gName, .int .i64 n219_.1.gNum, .sl (List.map GTerm.c n219_.1.gKids)] [(3, .app 37)])], []⟩ _ (by kernel_rfl) (.cons (claws_toInsS h244) (.cons (cspec_TermOf h245) .nil)) ?_
    refine Wc.seq ?_
    obtain ⟨m220_, h246, h⟩ := obind h
    refine Wc.region [{}, { r := some (.v (.slx) [(0, .ex 97 true (List.map GIns.c m220_))]) }, { tk := [26] }] [] [0, 4, 5, 6] [4] [] ⟨[(0, (.v (.sl (List.map GIns.c i216_)), [])), (4, (.ptr 4 0, [])), (5, (.v (.bool n219_.2), [])), (6, (.v (.slx), [(0, .ex 97 true (List.map GIns.c m220_))]))], [(4, .cells [.int .i64 n219_.1.gKind, .str n219_.1.gName, .int .i64 n219_.1.gNum, .sl (List.map GTerm.c n219_.1.gKids)] [(3, .app 37)])], []⟩ _ (by kernel_rfl) (.cons (claws_toInsS_d h246) .nil) ?_
    refine Wc.seq ?_
    obtain ⟨n221_, h247, h⟩ := obind h
    refine Wc.region [{}, { r := some (.v (.tup [.agg [.int .i64 n221_.1.gKind, .str n221_.1.gName, .int .i64 n221_.1.gNum, .slx], .bool n221_.2]) [(3, .ex 37 true (List.map GTerm.c n221_.1.gKids))]) }, { tk := [29] }, { tk := [27] }, {}, {}, { tk := [30] }] [] [0, 4, 5, 6, 7, 8] [4, 7] [] ⟨[(0, (.v (.sl (List.map GIns.c i216_)), [])), (4, (.ptr 4 0, [])), (5, (.v (.bool n219_.2), [])), (6, (.v (.slx), [(0, .ex 97 true (List.map GIns.c m220_))])), (7, (.ptr 7 0, [])), (8, (.v (.bool n221_.2), []))], [(4, .cells [.int .i64 n219_.1.gKind, .str n219_.1.gName, .int .i64 n219_.1.gNum, .sl (List.map GTerm.c n219_.1.gKids)] [(3, .app 37)]), (7, .cells [.int .i64 n221_.1.gKind, .str n221_.1.gName, .int .i64 n221_.1.gNum, .slx] [(3, .ex 37 true (List.map GTerm.c n221_.1.gKids))])], []⟩ _ (by kernel_rfl) (.cons (cimpl_TermOf_d h247) .nil) ?_
    refine Wc.seq ?_
    refine Wc.seq ?_
    obtain ⟨d222_, h248, h⟩ := obind h
    rcases oif h with ⟨h249, h⟩ | ⟨h249, h⟩
    · refine Wc.region [{}, {}, { r := some (.v (.bool d222_) []) }, {}, { re := some (.bool true) }] [] [0, 4, 5, 6, 7, 8, 40] [4, 7] [] ⟨[(0, (.v (.sl (List.map GIns.c i216_)), [])), (4, (.ptr 4 0, [])), (5, (.v (.bool n219_.2), [])), (6, (.v (.slx), [(0, .ex 97 true (List.map GIns.c m220_))])), (7, (.ptr 7 0, [])), (8, (.v (.bool n221_.2), [])), (40, (.v (.bool true), []))], [(4, .cells [.int .i64 n219_.1.gKind, .str n219_.1.gName, .int .i64 n219_.1.gNum, .sl (List.map GTerm.c n219_.1.gKids)] [(3, .app 37)]), (7, .cells [.int .i64 n221_.1.gKind, .str n221_.1.gName, .int .i64 n221_.1.gNum, .slx] [(3, .ex 37 true (List.map GTerm.c n221_.1.gKids))])], []⟩ _ (by kernel_rfl) (.cons (claws_eqTerm h248) (.cons (congrArg AV.bool h249) .nil)) ?_
      refine Wc.condT rfl (by kernel_rfl) ?_
      refine Wc.seq ?_
      refine Wc.region [] [] [2] [] [] ⟨[(2, (.v (.bool false), []))], [], []⟩ _ (by kernel_rfl) .nil ?_
      refine Wc.ret ?_
      obtain rfl := Option.some.inj h
      exact ⟨.inl rfl, by kernel_rfl, by kernel_rfl⟩
    · refine Wc.region [{}, {}, { r := some (.v (.bool d222_) []) }, {}, { re := some (.bool false) }] [] [0, 4, 5, 6, 7, 8, 40] [4, 7] [] ⟨[(0, (.v (.sl (List.map GIns.c i216_)), [])), (4, (.ptr 4 0, [])), (5, (.v (.bool n219_.2), [])), (6, (.v (.slx), [(0, .ex 97 true (List.map GIns.c m220_))])), (7, (.ptr 7 0, [])), (8, (.v (.bool n221_.2), [])), (40, (.v (.bool (!(n221_.2 == n219_.2))), []))], [(4, .cells [.int .i64 n219_.1.gKind, .str n219_.1.gName, .int .i64 n219_.1.gNum, .sl (List.map GTerm.c n219_.1.gKids)] [(3, .app 37)]), (7, .cells [.int .i64 n221_.1.gKind, .str n221_.1.gName, .int .i64 n221_.1.gNum, .slx] [(3, .ex 37 true (List.map GTerm.c n221_.1.gKids))])], []⟩ _ (by kernel_rfl) (.cons (claws_eqTerm h248) (.cons (congrArg AV.bool h249) .nil)) ?_
      rcases oif h with ⟨h250, h⟩ | ⟨h250, h⟩
      · refine Wc.condT h250 (by kernel_rfl) ?_
        refine Wc.seq ?_
        refine Wc.region [] [] [2] [] [] ⟨[(2, (.v (.bool false), []))], [], []⟩ _ (by kernel_rfl) .nil ?_
        refine Wc.ret ?_
        obtain rfl := Option.some.inj h
        exact ⟨.inl rfl, by kernel_rfl, by kernel_rfl⟩
      · refine Wc.condF h250 (by kernel_rfl) ?_
        refine Wc.fix (st' := ⟨[(0, (.v (.sl (List.map GIns.c i216_)), [])), (4, (.ptr 4 0, [])), (5, (.v (.bool n219_.2), [])), (6, (.v (.slx), [(0, .ex 97 true (List.map GIns.c m220_))])), (7, (.ptr 7 0, [])), (8, (.v (.bool n221_.2), []))], [(4, .cells [.int .i64 n219_.1.gKind, .str n219_.1.gName, .int .i64 n219_.1.gNum, .sl (List.map GTerm.c n219_.1.gKids)] [(3, .app 37)]), (7, .cells [.int .i64 n221_.1.gKind, .str n221_.1.gName, .int .i64 n221_.1.gNum, .slx] [(3, .ex 37 true (List.map GTerm.c n221_.1.gKids))])], []⟩) [] [0, 4, 5, 6, 7, 8] [4, 7] [] (by kernel_rfl) ?_
        refine Wc.skip ?_
        refine Wc.seq ?_
        refine Wc.seq ?_
        obtain ⟨m223_, h251, h⟩ := obind h
        obtain ⟨d224_, h252, h⟩ := obind h
        refine Wc.region [{}, {}, { r := some (.v (.sl (List.map GIns.c m223_)) []) }, { r := some (.v (.bool d224_) []) }] [] [0, 4, 5, 6, 7, 8, 45] [4, 7] [] ⟨[(0, (.v (.sl (List.map GIns.c i216_)), [])), (4, (.ptr 4 0, [])), (5, (.v (.bool n219_.2), [])), (6, (.v (.slx), [(0, .ex 97 true (List.map GIns.c m220_))])), (7, (.ptr 7 0, [])), (8, (.v (.bool n221_.2), [])), (45, (.v (.bool (!d224_)), []))], [(4, .cells [.int .i64 n219_.1.gKind, .str n219_.1.gName, .int .i64 n219_.1.gNum, .sl (List.map GTerm.c n219_.1.gKids)] [(3, .app 37)]), (7, .cells [.int .i64 n221_.1.gKind, .str n221_.1.gName, .int .i64 n221_.1.gNum, .slx] [(3, .ex 37 true (List.map GTerm.c n221_.1.gKids))])], []⟩ _ (by kernel_rfl) (.cons (claws_toInsS h251) (.cons (claws_eqInsS h252) .nil)) ?_
        rcases oif h with ⟨h253, h⟩ | ⟨h253, h⟩
        · refine Wc.condT h253 (by kernel_rfl) ?_
          refine Wc.seq ?_
          refine Wc.region [] [] [2] [] [] ⟨[(2, (.v (.bool false), []))], [], []⟩ _ (by kernel_rfl) .nil ?_
          refine Wc.ret ?_
          obtain rfl := Option.some.inj h
          exact ⟨.inl rfl, by kernel_rfl, by kernel_rfl⟩
        · refine Wc.condF h253 (by kernel_rfl) ?_
          refine Wc.fix (st' := ⟨[(0, (.v (.sl (List.map GIns.c i216_)), [])), (4, (.ptr 4 0, [])), (5, (.v (.bool n219_.2), [])), (6, (.v (.slx), [(0, .ex 97 true (List.map GIns.c m220_))])), (7, (.ptr 7 0, [])), (8, (.v (.bool n221_.2), []))], [(4, .cells [.int .i64 n219_.1.gKind, .str n219_.1.gName, .int .i64 n219_.1.gNum, .sl (List.map GTerm.c n219_.1.gKids)] [(3, .app 37)]), (7, .cells [.int .i64 n221_.1.gKind, .str n221_.1.gName, .int .i64 n221_.1.gNum, .slx] [(3, .ex 37 true (List.map GTerm.c n221_.1.gKids))])], []⟩) [] [0, 4, 5, 6, 7, 8] [4, 7] [] (by kernel_rfl) ?_
          refine Wc.skip ?_
          refine Wc.seq ?_
          refine Wc.region [] [] [0, 4, 5, 6, 7, 8, 9] [4, 7] [] ⟨[(0, (.v (.sl (List.map GIns.c i216_)), [])), (4, (.ptr 4 0, [])), (5, (.v (.bool n219_.2), [])), (6, (.v (.slx), [(0, .ex 97 true (List.map GIns.c m220_))])), (7, (.ptr 7 0, [])), (8, (.v (.bool n221_.2), [])), (9, (.v (.int .i64 1), []))], [(4, .cells [.int .i64 n219_.1.gKind, .str n219_.1.gName, .int .i64 n219_.1.gNum, .sl (List.map GTerm.c n219_.1.gKids)] [(3, .app 37)]), (7, .cells [.int .i64 n221_.1.gKind, .str n221_.1.gName, .int .i64 n221_.1.gNum, .slx] [(3, .ex 37 true (List.map GTerm.c n221_.1.gKids))])], []⟩ _ (by kernel_rfl) .nil ?_
          refine Wc.seq ?_
          obtain ⟨o225_, h254, h⟩ := obind h
          refine Wc.region [{}, {}, { io := [0], r := some (.v (.int .i64 o225_.2) []), outs := [(0, .v .undef [(0, .ex 1000000007 true (List.map GIns.c o225_.1))])] }] [] [0, 4, 5, 7, 8, 9] [4, 7] [] ⟨[(0, (.v (.sl (List.map GIns.c i216_)), [])), (4, (.ptr 4 0, [])), (5, (.v (.bool n219_.2), [])), (7, (.ptr 7 0, [])), (8, (.v (.bool n221_.2), [])), (9, (.v (.int .i64 o225_.2), []))], [(4, .cells [.int .i64 n219_.1.gKind, .str n219_.1.gName, .int .i64 n219_.1.gNum, .sl (List.map GTerm.c n219_.1.gKids)] [(3, .app 37)]), (7, .cells [.int .i64 n221_.1.gKind, .str n221_.1.gName, .int .i64 n221_.1.gNum, .slx] [(3, .ex 37 true (List.map GTerm.c n221_.1.gKids))])], []⟩ _ (by kernel_rfl) (.cons (FnO.any (args := [.io (.slx) [(0, .ex 97 true (List.map GIns.c m220_))], .v (.int .i64 1) []]) (claws_markInsS h254)) .nil) ?_
          refine Wc.seq ?_
          refine Wc.seq ?_
          rcases oif h with ⟨h255, h⟩ | ⟨h255, h⟩
          · refine Wc.region [{}, {}, { re := some (.bool true) }] [] [0, 4, 5, 7, 61] [4, 7] [] ⟨[(0, (.v (.sl (List.map GIns.c i216_)), [])), (4, (.ptr 4 0, [])), (5, (.v (.bool n219_.2), [])), (7, (.ptr 7 0, [])), (61, (.v (.bool true), []))], [(4, .cells [.int .i64 n219_.1.gKind, .str n219_.1.gName, .int .i64 n219_.1.gNum, .sl (List.map GTerm.c n219_.1.gKids)] [(3, .app 37)]), (7, .cells [.int .i64 n221_.1.gKind, .str n221_.1.gName, .int .i64 n221_.1.gNum, .slx] [(3, .ex 37 true (List.map GTerm.c n221_.1.gKids))])], []⟩ _ (by kernel_rfl) (.cons (congrArg AV.bool h255) .nil) ?_
            refine Wc.condT rfl (by kernel_rfl) ?_
            refine Wc.seq ?_
            refine Wc.region [] [] [2] [] [] ⟨[(2, (.v (.bool false), []))], [], []⟩ _ (by kernel_rfl) .nil ?_
            refine Wc.ret ?_
            obtain rfl := Option.some.inj h
            exact ⟨.inl rfl, by kernel_rfl, by kernel_rfl⟩
          · obtain ⟨d226_, h256, h⟩ := obind h
            rcases oif h with ⟨h257, h⟩ | ⟨h257, h⟩
            · refine Wc.region [{}, {}, { re := some (.bool false) }, {}, {}, { r := some (.v (.bool d226_) []) }, {}, {}, { re := some (.bool true) }] [] [0, 4, 5, 7, 61] [4, 7] [] ⟨[(0, (.v (.sl (List.map GIns.c i216_)), [])), (4, (.ptr 4 0, [])), (5, (.v (.bool n219_.2), [])), (7, (.ptr 7 0, [])), (61, (.v (.bool true), []))], [(4, .cells [.int .i64 n219_.1.gKind, .str n219_.1.gName, .int .i64 n219_.1.gNum, .sl (List.map GTerm.c n219_.1.gKids)] [(3, .app 37)]), (7, .cells [.int .i64 n221_.1.gKind, .str n221_.1.gName, .int .i64 n221_.1.gNum, .slx] [(3, .ex 37 true (List.map GTerm.c n221_.1.gKids))])], []⟩ _ (by kernel_rfl) (.cons (congrArg AV.bool h255) (.cons (claws_eqTerm h256) (.cons (congrArg AV.bool h257) .nil))) ?_
              refine Wc.condT rfl (by kernel_rfl) ?_
              refine Wc.seq ?_
              refine Wc.region [] [] [2] [] [] ⟨[(2, (.v (.bool false), []))], [], []⟩ _ (by kernel_rfl) .nil ?_
              refine Wc.ret ?_
              obtain rfl := Option.some.inj h
              exact ⟨.inl rfl, by kernel_rfl, by kernel_rfl⟩
            · refine Wc.region [{}, {}, { re := some (.bool false) }, {}, {}, { r := some (.v (.bool d226_) []) }, {}, {}, { re := some (.bool false) }] [] [0, 4, 5, 7, 61] [4, 7] [] ⟨[(0, (.v (.sl (List.map GIns.c i216_)), [])), (4, (.ptr 4 0, [])), (5, (.v (.bool n219_.2), [])), (7, (.ptr 7 0, [])), (61, (.v (.bool (!(n221_.2 == n219_.2))), []))], [(4, .cells [.int .i64 n219_.1.gKind, .str n219_.1.gName, .int .i64 n219_.1.gNum, .sl (List.map GTerm.c n219_.1.gKids)] [(3, .app 37)]), (7, .cells [.int .i64 n221_.1.gKind, .str n221_.1.gName, .int .i64 n221_.1.gNum, .slx] [(3, .ex 37 true (List.map GTerm.c n221_.1.gKids))])], []⟩ _ (by kernel_rfl) (.cons (congrArg AV.bool h255) (.cons (claws_eqTerm h256) (.cons (congrArg AV.bool h257) .nil))) ?_
              rcases oif h with ⟨h258, h⟩ | ⟨h258, h⟩
              · refine Wc.condT h258 (by kernel_rfl) ?_
                refine Wc.seq ?_
                refine Wc.region [] [] [2] [] [] ⟨[(2, (.v (.bool false), []))], [], []⟩ _ (by kernel_rfl) .nil ?_
                refine Wc.ret ?_
                obtain rfl := Option.some.inj h
                exact ⟨.inl rfl, by kernel_rfl, by kernel_rfl⟩
              · refine Wc.condF h258 (by kernel_rfl) ?_
                refine Wc.fix (st' := ⟨[(0, (.v (.sl (List.map GIns.c i216_)), [])), (4, (.ptr 4 0, [])), (5, (.v (.bool n219_.2), [])), (7, (.ptr 7 0, []))], [(4, .cells [.int .i64 n219_.1.gKind, .str n219_.1.gName, .int .i64 n219_.1.gNum, .sl (List.map GTerm.c n219_.1.gKids)] [(3, .app 37)]), (7, .cells [.int .i64 n221_.1.gKind, .str n221_.1.gName, .int .i64 n221_.1.gNum, .slx] [(3, .ex 37 true (List.map GTerm.c n221_.1.gKids))])], []⟩) [] [0, 4, 5, 7] [4, 7] [] (by kernel_rfl) ?_
                refine Wc.skip ?_
                refine Wc.seq ?_
                refine Wc.region [] [] [0, 4, 5, 7, 10] [4, 7] [] ⟨[(0, (.v (.sl (List.map GIns.c i216_)), [])), (4, (.ptr 4 0, [])), (5, (.v (.bool n219_.2), [])), (7, (.ptr 7 0, [])), (10, (.v (.int .i64 1), []))], [(4, .cells [.int .i64 n219_.1.gKind, .str n219_.1.gName, .int .i64 n219_.1.gNum, .sl (List.map GTerm.c n219_.1.gKids)] [(3, .app 37)]), (7, .cells [.int .i64 n221_.1.gKind, .str n221_.1.gName, .int .i64 n221_.1.gNum, .slx] [(3, .ex 37 true (List.map GTerm.c n221_.1.gKids))])], []⟩ _ (by kernel_rfl) .nil ?_
                refine Wc.seq ?_
                obtain ⟨j227_, h259, h⟩ := obind h
                refine Wc.region [{}, {}, { io := [0], r := some (.v (.int .i64 j227_.2) []), outs := [(0, .v .undef [(3, .ex 1000000007 true (List.map GTerm.c j227_.1.gKids))])] }] [] [0, 4, 5, 7, 10] [4, 7] [] ⟨[(0, (.v (.sl (List.map GIns.c i216_)), [])), (4, (.ptr 4 0, [])), (5, (.v (.bool n219_.2), [])), (7, (.ptr 7 0, [])), (10, (.v (.int .i64 j227_.2), []))], [(4, .cells [.int .i64 n219_.1.gKind, .str n219_.1.gName, .int .i64 n219_.1.gNum, .sl (List.map GTerm.c n219_.1.gKids)] [(3, .app 37)]), (7, .cells [.int .i64 n221_.1.gKind, .str n221_.1.gName, .int .i64 n221_.1.gNum, .slx] [(3, .ex 1000000007 true (List.map GTerm.c j227_.1.gKids))])], []⟩ _ (by kernel_rfl) (.cons (FnO.any (args := [.io (.agg [.int .i64 n221_.1.gKind, .str n221_.1.gName, .int .i64 n221_.1.gNum, .slx]) [(3, .ex 37 true (List.map GTerm.c n221_.1.gKids))], .v (.int .i64 1) []]) (claws_markTerm h259)) .nil) ?_
                refine Wc.seq ?_
                refine Wc.region [] [] [0, 4, 5, 7, 10, 11] [4, 7] [] ⟨[(0, (.v (.sl (List.map GIns.c i216_)), [])), (4, (.ptr 4 0, [])), (5, (.v (.bool n219_.2), [])), (7, (.ptr 7 0, [])), (10, (.v (.int .i64 j227_.2), [])), (11, (.v (.int .i64 1), []))], [(4, .cells [.int .i64 n219_.1.gKind, .str n219_.1.gName, .int .i64 n219_.1.gNum, .sl (List.map GTerm.c n219_.1.gKids)] [(3, .app 37)]), (7, .cells [.int .i64 n221_.1.gKind, .str n221_.1.gName, .int .i64 n221_.1.gNum, .slx] [(3, .ex 1000000007 true (List.map GTerm.c j227_.1.gKids))])], []⟩ _ (by kernel_rfl) .nil ?_
                refine Wc.seq ?_
                obtain ⟨b228_, h260, h⟩ := obind h
                refine Wc.region [{}, {}, { r := some (.v (.int .i64 b228_) []) }] [] [0, 4, 5, 7, 10, 11] [4, 7] [] ⟨[(0, (.v (.sl (List.map GIns.c i216_)), [])), (4, (.ptr 4 0, [])), (5, (.v (.bool n219_.2), [])), (7, (.ptr 7 0, [])), (10, (.v (.int .i64 j227_.2), [])), (11, (.v (.int .i64 b228_), []))], [(4, .cells [.int .i64 n219_.1.gKind, .str n219_.1.gName, .int .i64 n219_.1.gNum, .sl (List.map GTerm.c n219_.1.gKids)] [(3, .app 37)]), (7, .cells [.int .i64 n221_.1.gKind, .str n221_.1.gName, .int .i64 n221_.1.gNum, .slx] [(3, .ex 1000000007 true (List.map GTerm.c j227_.1.gKids))])], []⟩ _ (by kernel_rfl) (.cons (claws_heldTerm h260) .nil) ?_
                refine Wc.seq ?_
                refine Wc.seq ?_
                refine Wc.region [] [] [0, 4, 5, 7, 10, 11, 69] [4, 7] [] ⟨[(0, (.v (.sl (List.map GIns.c i216_)), [])), (4, (.ptr 4 0, [])), (5, (.v (.bool n219_.2), [])), (7, (.ptr 7 0, [])), (10, (.v (.int .i64 j227_.2), [])), (11, (.v (.int .i64 b228_), [])), (69, (.v (.bool (decide (b228_ < 0))), []))], [(4, .cells [.int .i64 n219_.1.gKind, .str n219_.1.gName, .int .i64 n219_.1.gNum, .sl (List.map GTerm.c n219_.1.gKids)] [(3, .app 37)]), (7, .cells [.int .i64 n221_.1.gKind, .str n221_.1.gName, .int .i64 n221_.1.gNum, .slx] [(3, .ex 1000000007 true (List.map GTerm.c j227_.1.gKids))])], []⟩ _ (by kernel_rfl) .nil ?_
                rcases oif h with ⟨h261, h⟩ | ⟨h261, h⟩
                · refine Wc.condT h261 (by kernel_rfl) ?_
                  refine Wc.seq ?_
                  refine Wc.region [] [] [2] [] [] ⟨[(2, (.v (.bool false), []))], [], []⟩ _ (by kernel_rfl) .nil ?_
                  refine Wc.ret ?_
                  obtain rfl := Option.some.inj h
                  exact ⟨.inl rfl, by kernel_rfl, by kernel_rfl⟩
                · refine Wc.condF h261 (by kernel_rfl) ?_
                  refine Wc.fix (st' := ⟨[(0, (.v (.sl (List.map GIns.c i216_)), [])), (4, (.ptr 4 0, [])), (5, (.v (.bool n219_.2), [])), (7, (.ptr 7 0, [])), (10, (.v (.int .i64 j227_.2), [])), (11, (.v (.int .i64 b228_), []))], [(4, .cells [.int .i64 n219_.1.gKind, .str n219_.1.gName, .int .i64 n219_.1.gNum, .sl (List.map GTerm.c n219_.1.gKids)] [(3, .app 37)]), (7, .cells [.int .i64 n221_.1.gKind, .str n221_.1.gName, .int .i64 n221_.1.gNum, .slx] [(3, .ex 1000000007 true (List.map GTerm.c j227_.1.gKids))])], []⟩) [] [0, 4, 5, 7, 10, 11] [4, 7] [] (by kernel_rfl) ?_
                  refine Wc.skip ?_
                  refine Wc.seq ?_
                  refine Wc.seq ?_
                  refine Wc.region [] [] [0, 4, 5, 7, 10, 72] [4, 7] [] ⟨[(0, (.v (.sl (List.map GIns.c i216_)), [])), (4, (.ptr 4 0, [])), (5, (.v (.bool n219_.2), [])), (7, (.ptr 7 0, [])), (10, (.v (.int .i64 j227_.2), [])), (72, (.v (.bool (b228_ != j227_.2)), []))], [(4, .cells [.int .i64 n219_.1.gKind, .str n219_.1.gName, .int .i64 n219_.1.gNum, .sl (List.map GTerm.c n219_.1.gKids)] [(3, .app 37)]), (7, .cells [.int .i64 n221_.1.gKind, .str n221_.1.gName, .int .i64 n221_.1.gNum, .slx] [(3, .ex 1000000007 true (List.map GTerm.c j227_.1.gKids))])], []⟩ _ (by kernel_rfl) .nil ?_
                  rcases oif h with ⟨h262, h⟩ | ⟨h262, h⟩
                  · refine Wc.condT h262 (by kernel_rfl) ?_
                    refine Wc.seq ?_
                    refine Wc.region [] [] [2] [] [] ⟨[(2, (.v (.bool false), []))], [], []⟩ _ (by kernel_rfl) .nil ?_
                    refine Wc.ret ?_
                    obtain rfl := Option.some.inj h
                    exact ⟨.inl rfl, by kernel_rfl, by kernel_rfl⟩
                  · refine Wc.condF h262 (by kernel_rfl) ?_
                    refine Wc.fix (st' := ⟨[(0, (.v (.sl (List.map GIns.c i216_)), [])), (4, (.ptr 4 0, [])), (5, (.v (.bool n219_.2), [])), (7, (.ptr 7 0, [])), (10, (.v (.int .i64 j227_.2), []))], [(4, .cells [.int .i64 n219_.1.gKind, .str n219_.1.gName, .int .i64 n219_.1.gNum, .sl (List.map GTerm.c n219_.1.gKids)] [(3, .app 37)]), (7, .cells [.int .i64 n221_.1.gKind, .str n221_.1.gName, .int .i64 n221_.1.gNum, .slx] [(3, .ex 1000000007 true (List.map GTerm.c j227_.1.gKids))])], []⟩) [] [0, 4, 5, 7, 10] [4, 7] [] (by kernel_rfl) ?_
                    refine Wc.skip ?_
                    refine Wc.seq ?_
                    obtain ⟨m229_, h263, h⟩ := obind h
                    obtain ⟨n230_, h264, h⟩ := obind h
                    refine Wc.region [{}, { r := some (.v (.sl (List.map GIns.c m229_)) []) }, { r := some (.v (.tup [.agg [.int .i64 n230_.1.gKind, .str n230_.1.gName, .int .i64 n230_.1.gNum, .slx], .bool n230_.2]) [(3, .ex 37 true (List.map GTerm.c n230_.1.gKids))]) }, { tk := [76] }, { tk := [73] }, {}, {}, { tk := [77] }] [] [4, 5, 7, 10, 12, 13] [4, 7, 12] [] ⟨[(4, (.ptr 4 0, [])), (5, (.v (.bool n219_.2), [])), (7, (.ptr 7 0, [])), (10, (.v (.int .i64 j227_.2), [])), (12, (.ptr 12 0, [])), (13, (.v (.bool n230_.2), []))], [(4, .cells [.int .i64 n219_.1.gKind, .str n219_.1.gName, .int .i64 n219_.1.gNum, .sl (List.map GTerm.c n219_.1.gKids)] [(3, .app 37)]), (7, .cells [.int .i64 n221_.1.gKind, .str n221_.1.gName, .int .i64 n221_.1.gNum, .slx] [(3, .ex 1000000007 true (List.map GTerm.c j227_.1.gKids))]), (12, .cells [.int .i64 n230_.1.gKind, .str n230_.1.gName, .int .i64 n230_.1.gNum, .slx] [(3, .ex 37 true (List.map GTerm.c n230_.1.gKids))])], []⟩ _ (by kernel_rfl) (.cons (claws_toInsS h263) (.cons (cimpl_TermOf_d h264) .nil)) ?_
                    refine Wc.seq ?_
                    refine Wc.seq ?_
                    obtain ⟨d231_, h265, h⟩ := obind h
                    rcases oif h with ⟨h266, h⟩ | ⟨h266, h⟩
                    · refine Wc.region [{}, {}, { r := some (.v (.bool d231_) []) }, {}, { re := some (.bool true) }] [] [7, 10, 87] [7] [] ⟨[(7, (.ptr 7 0, [])), (10, (.v (.int .i64 j227_.2), [])), (87, (.v (.bool true), []))], [(7, .cells [.int .i64 n221_.1.gKind, .str n221_.1.gName, .int .i64 n221_.1.gNum, .slx] [(3, .ex 1000000007 true (List.map GTerm.c j227_.1.gKids))])], []⟩ _ (by kernel_rfl) (.cons (claws_eqTerm h265) (.cons (congrArg AV.bool h266) .nil)) ?_
                      refine Wc.condT rfl (by kernel_rfl) ?_
                      refine Wc.seq ?_
                      refine Wc.region [] [] [2] [] [] ⟨[(2, (.v (.bool false), []))], [], []⟩ _ (by kernel_rfl) .nil ?_
                      refine Wc.ret ?_
                      obtain rfl := Option.some.inj h
                      exact ⟨.inl rfl, by kernel_rfl, by kernel_rfl⟩
                    · refine Wc.region [{}, {}, { r := some (.v (.bool d231_) []) }, {}, { re := some (.bool false) }] [] [7, 10, 87] [7] [] ⟨[(7, (.ptr 7 0, [])), (10, (.v (.int .i64 j227_.2), [])), (87, (.v (.bool (!(n230_.2 == n219_.2))), []))], [(7, .cells [.int .i64 n221_.1.gKind, .str n221_.1.gName, .int .i64 n221_.1.gNum, .slx] [(3, .ex 1000000007 true (List.map GTerm.c j227_.1.gKids))])], []⟩ _ (by kernel_rfl) (.cons (claws_eqTerm h265) (.cons (congrArg AV.bool h266) .nil)) ?_
                      rcases oif h with ⟨h267, h⟩ | ⟨h267, h⟩
                      · refine Wc.condT h267 (by kernel_rfl) ?_
                        refine Wc.seq ?_
                        refine Wc.region [] [] [2] [] [] ⟨[(2, (.v (.bool false), []))], [], []⟩ _ (by kernel_rfl) .nil ?_
                        refine Wc.ret ?_
                        obtain rfl := Option.some.inj h
                        exact ⟨.inl rfl, by kernel_rfl, by kernel_rfl⟩
                      · refine Wc.condF h267 (by kernel_rfl) ?_
                        refine Wc.fix (st' := ⟨[(7, (.ptr 7 0, [])), (10, (.v (.int .i64 j227_.2), []))], [(7, .cells [.int .i64 n221_.1.gKind, .str n221_.1.gName, .int .i64 n221_.1.gNum, .slx] [(3, .ex 1000000007 true (List.map GTerm.c j227_.1.gKids))])], []⟩) [] [7, 10] [7] [] (by kernel_rfl) ?_
                        refine Wc.skip ?_
                        refine Wc.seq ?_
                        refine Wc.region [] [] [7, 10, 11] [7] [] ⟨[(7, (.ptr 7 0, [])), (10, (.v (.int .i64 j227_.2), [])), (11, (.v (.int .i64 1), []))], [(7, .cells [.int .i64 n221_.1.gKind, .str n221_.1.gName, .int .i64 n221_.1.gNum, .slx] [(3, .ex 1000000007 true (List.map GTerm.c j227_.1.gKids))])], []⟩ _ (by kernel_rfl) .nil ?_
                        refine Wc.seq ?_
                        obtain ⟨b232_, h268, h⟩ := obind h
                        refine Wc.region [{}, {}, { r := some (.v (.int .i64 b232_) []) }] [] [10, 11] [] [] ⟨[(10, (.v (.int .i64 j227_.2), [])), (11, (.v (.int .i64 b232_), []))], [], []⟩ _ (by kernel_rfl) (.cons (claws_heldTerm h268) .nil) ?_
                        refine Wc.seq ?_
                        refine Wc.seq ?_
                        refine Wc.region [] [] [10, 11, 92] [] [] ⟨[(10, (.v (.int .i64 j227_.2), [])), (11, (.v (.int .i64 b232_), [])), (92, (.v (.bool (decide (b232_ < 0))), []))], [], []⟩ _ (by kernel_rfl) .nil ?_
                        rcases oif h with ⟨h269, h⟩ | ⟨h269, h⟩
                        · refine Wc.condT h269 (by kernel_rfl) ?_
                          refine Wc.seq ?_
                          refine Wc.region [] [] [2] [] [] ⟨[(2, (.v (.bool false), []))], [], []⟩ _ (by kernel_rfl) .nil ?_
                          refine Wc.ret ?_
                          obtain rfl := Option.some.inj h
                          exact ⟨.inl rfl, by kernel_rfl, by kernel_rfl⟩
                        · refine Wc.condF h269 (by kernel_rfl) ?_
                          refine Wc.fix (st' := ⟨[(10, (.v (.int .i64 j227_.2), [])), (11, (.v (.int .i64 b232_), []))], [], []⟩) [] [10, 11] [] [] (by kernel_rfl) ?_
                          refine Wc.skip ?_
                          refine Wc.seq ?_
                          refine Wc.seq ?_
                          refine Wc.region [] [] [95] [] [] ⟨[(95, (.v (.bool (b232_ != j227_.2)), []))], [], []⟩ _ (by kernel_rfl) .nil ?_
                          rcases oif h with ⟨h270, h⟩ | ⟨h270, h⟩
                          · refine Wc.condT h270 (by kernel_rfl) ?_
                            refine Wc.seq ?_
                            refine Wc.region [] [] [2] [] [] ⟨[(2, (.v (.bool false), []))], [], []⟩ _ (by kernel_rfl) .nil ?_
                            refine Wc.ret ?_
                            obtain rfl := Option.some.inj h
                            exact ⟨.inl rfl, by kernel_rfl, by kernel_rfl⟩
                          · refine Wc.condF h270 (by kernel_rfl) ?_
                            refine Wc.fix (st' := ⟨[], [], []⟩) [] [] [] [] (by kernel_rfl) ?_
                            refine Wc.skip ?_
                            refine Wc.seq ?_
                            refine Wc.region [] [] [2] [] [] ⟨[(2, (.v (.bool true), []))], [], []⟩ _ (by kernel_rfl) .nil ?_
                            refine Wc.ret ?_
                            obtain rfl := Option.some.inj h
                            exact ⟨.inl rfl, by kernel_rfl, by kernel_rfl⟩
end Go.Proofs.Ytbfkmgenokhkgaa

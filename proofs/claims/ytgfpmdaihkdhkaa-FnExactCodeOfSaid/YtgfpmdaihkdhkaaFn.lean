/- What the functions do, part 2. -/
import Derived.Test.YtgfpmdaihkdhkaaFna
set_option linter.unusedVariables false
set_option linter.unusedSimpArgs false
namespace Go.Proofs.Ytgfpmdaihkdhkaa
open Go.RowKit Go.Bv
/-- impl.CodeOf -/
def pimpl_CodeOf (k : Nat) (d262_ : GClause) : Option (GCode × Bool) :=
  (pimpl_TermOk k d262_.gHead).bind fun f263_ =>
  if (!f263_) = true then
    some (GCode.mk [] [] 0, false)
  else
    (pimpl_TermOk k d262_.gBody).bind fun f264_ =>
    if (!f264_) = true then
      some (GCode.mk [] [] 0, false)
    else
      (pimpl_WordsOf k d262_.gHead []).bind fun j265_ =>
      (pimpl_WordsOf k d262_.gBody j265_.2).bind fun j266_ =>
      (pimpl_varsUpTo k [d262_.gHead, d262_.gBody]).bind fun b267_ =>
      some (GCode.mk j265_.1 j266_.1 b267_, true)
theorem cimpl_CodeOf {k : Nat} {d262_ : GClause} {r : GCode × Bool} (h : pimpl_CodeOf k d262_ = some r) : FnO Try.prog 28 [.v (.agg [.int .i64 d262_.gHead.gKind, .str d262_.gHead.gName, .int .i64 d262_.gHead.gNum, .sl (List.map GTerm.c d262_.gHead.gKids), .int .i64 d262_.gBody.gKind, .str d262_.gBody.gName, .int .i64 d262_.gBody.gNum, .sl (List.map GTerm.c d262_.gBody.gKids), .str d262_.gFile]) []] (.v (.tup [.agg [.sl (List.map GIns.c r.1.gHead), .sl (List.map GIns.c r.1.gBody), .int .i64 r.1.gVars], .bool r.2]) [(0, .app 158), (1, .app 158)]) [] := by
  refine FnO.of Try.func28 (rfl : Try.f28.body = some _) (Nat.le_of_ble_eq_true (by kernel_rfl)) (Nat.le_of_ble_eq_true (by kernel_rfl)) ?_
  intro w0 X0 Fin pv0 pb
  unfold pimpl_CodeOf at h
  refine Wc.seq ?_
  refine Wc.region [] [] [1, 2] [1, 2] [] ⟨[(1, (.ptr 1 0, [])), (2, (.ptr 2 0, []))], [(1, .cells [.int .i64 d262_.gHead.gKind, .str d262_.gHead.gName, .int .i64 d262_.gHead.gNum, .sl (List.map GTerm.c d262_.gHead.gKids), .int .i64 d262_.gBody.gKind, .str d262_.gBody.gName, .int .i64 d262_.gBody.gNum, .sl (List.map GTerm.c d262_.gBody.gKids), .str d262_.gFile] []), (2, .cells [.sl (List.map GIns.c []), .sl (List.map GIns.c []), .int .i64 0] [(0, .app 158), (1, .app 158)])], []⟩ _ (by kernel_rfl) .nil ?_
  refine Wc.seq ?_
  refine Wc.seq ?_
  obtain ⟨f263_, h284, h⟩ := obind h
  rcases oif h with ⟨h285, h⟩ | ⟨h285, h⟩
  · refine Wc.region [{}, {}, { r := some (.v (.bool f263_) []) }, {}, { re := some (.bool true) }] [] [1, 2, 17] [1, 2] [] ⟨[(1, (.ptr 1 0, [])), (2, (.ptr 2 0, [])), (17, (.v (.bool true), []))], [(1, .cells [.int .i64 d262_.gHead.gKind, .str d262_.gHead.gName, .int .i64 d262_.gHead.gNum, .sl (List.map GTerm.c d262_.gHead.gKids), .int .i64 d262_.gBody.gKind, .str d262_.gBody.gName, .int .i64 d262_.gBody.gNum, .sl (List.map GTerm.c d262_.gBody.gKids), .str d262_.gFile] []), (2, .cells [.sl (List.map GIns.c []), .sl (List.map GIns.c []), .int .i64 0] [(0, .app 158), (1, .app 158)])], []⟩ _ (by kernel_rfl) (.cons (cimpl_TermOk h284) (.cons (congrArg AV.bool h285) .nil)) ?_
    refine Wc.condT rfl (by kernel_rfl) ?_
    refine Wc.seq ?_
    refine Wc.region [{}, { tk := [18] }] [] [2, 3] [2] [] ⟨[(2, (.ptr 2 0, [])), (3, (.v (.bool false), []))], [(2, .cells [.sl (List.map GIns.c []), .sl (List.map GIns.c []), .int .i64 0] [(0, .app 158), (1, .app 158)])], []⟩ _ (by kernel_rfl) .nil ?_
    refine Wc.ret ?_
    obtain rfl := Option.some.inj h
    exact ⟨.inl rfl, by kernel_rfl, by kernel_rfl⟩
  · obtain ⟨f264_, h286, h⟩ := obind h
    refine Wc.region [{}, {}, { r := some (.v (.bool f263_) []) }, {}, { re := some (.bool false) }, {}, {}, { r := some (.v (.bool f264_) []) }] [] [1, 2, 17] [1, 2] [] ⟨[(1, (.ptr 1 0, [])), (2, (.ptr 2 0, [])), (17, (.v (.bool (!f264_)), []))], [(1, .cells [.int .i64 d262_.gHead.gKind, .str d262_.gHead.gName, .int .i64 d262_.gHead.gNum, .sl (List.map GTerm.c d262_.gHead.gKids), .int .i64 d262_.gBody.gKind, .str d262_.gBody.gName, .int .i64 d262_.gBody.gNum, .sl (List.map GTerm.c d262_.gBody.gKids), .str d262_.gFile] []), (2, .cells [.sl (List.map GIns.c []), .sl (List.map GIns.c []), .int .i64 0] [(0, .app 158), (1, .app 158)])], []⟩ _ (by kernel_rfl) (.cons (cimpl_TermOk h284) (.cons (congrArg AV.bool h285) (.cons (cimpl_TermOk h286) .nil))) ?_
    rcases oif h with ⟨h287, h⟩ | ⟨h287, h⟩
    · refine Wc.condT h287 (by kernel_rfl) ?_
      refine Wc.seq ?_
      refine Wc.region [{}, { tk := [18] }] [] [2, 3] [2] [] ⟨[(2, (.ptr 2 0, [])), (3, (.v (.bool false), []))], [(2, .cells [.sl (List.map GIns.c []), .sl (List.map GIns.c []), .int .i64 0] [(0, .app 158), (1, .app 158)])], []⟩ _ (by kernel_rfl) .nil ?_
      refine Wc.ret ?_
      obtain rfl := Option.some.inj h
      exact ⟨.inl rfl, by kernel_rfl, by kernel_rfl⟩
    · refine Wc.condF h287 (by kernel_rfl) ?_
      refine Wc.fix (st' := ⟨[(1, (.ptr 1 0, [])), (2, (.ptr 2 0, []))], [(1, .cells [.int .i64 d262_.gHead.gKind, .str d262_.gHead.gName, .int .i64 d262_.gHead.gNum, .sl (List.map GTerm.c d262_.gHead.gKids), .int .i64 d262_.gBody.gKind, .str d262_.gBody.gName, .int .i64 d262_.gBody.gNum, .sl (List.map GTerm.c d262_.gBody.gKids), .str d262_.gFile] []), (2, .cells [.sl (List.map GIns.c []), .sl (List.map GIns.c []), .int .i64 0] [(0, .app 158), (1, .app 158)])], []⟩) [] [1, 2] [1, 2] [] (by kernel_rfl) ?_
      refine Wc.skip ?_
      refine Wc.seq ?_
      obtain ⟨j265_, h288, h⟩ := obind h
      refine Wc.region [{}, {}, { r := some (.v (.tup [.sl (List.map GIns.c j265_.1), .sl (List.map cI.i64 j265_.2)]) [(0, .app 158)]) }, { tk := [22] }, { tk := [19] }, {}, { tk := [23] }] [] [1, 2, 4, 5] [1, 2] [] ⟨[(1, (.ptr 1 0, [])), (2, (.ptr 2 0, [])), (4, (.v (.sl (List.map GIns.c j265_.1)), [(0, .app 158)])), (5, (.v (.sl (List.map cI.i64 j265_.2)), []))], [(1, .cells [.int .i64 d262_.gHead.gKind, .str d262_.gHead.gName, .int .i64 d262_.gHead.gNum, .sl (List.map GTerm.c d262_.gHead.gKids), .int .i64 d262_.gBody.gKind, .str d262_.gBody.gName, .int .i64 d262_.gBody.gNum, .sl (List.map GTerm.c d262_.gBody.gKids), .str d262_.gFile] []), (2, .cells [.sl (List.map GIns.c []), .sl (List.map GIns.c []), .int .i64 0] [(0, .app 158), (1, .app 158)])], []⟩ _ (by kernel_rfl) (.cons (cimpl_WordsOf h288) .nil) ?_
      refine Wc.seq ?_
      obtain ⟨j266_, h289, h⟩ := obind h
      refine Wc.region [{}, {}, {}, { r := some (.v (.tup [.sl (List.map GIns.c j266_.1), .sl (List.map cI.i64 j266_.2)]) [(0, .app 158)]) }, { tk := [29] }, { tk := [25] }, {}, { tk := [30] }] [] [1, 2, 4, 6] [1, 2] [] ⟨[(1, (.ptr 1 0, [])), (2, (.ptr 2 0, [])), (4, (.v (.sl (List.map GIns.c j265_.1)), [(0, .app 158)])), (6, (.v (.sl (List.map GIns.c j266_.1)), [(0, .app 158)]))], [(1, .cells [.int .i64 d262_.gHead.gKind, .str d262_.gHead.gName, .int .i64 d262_.gHead.gNum, .sl (List.map GTerm.c d262_.gHead.gKids), .int .i64 d262_.gBody.gKind, .str d262_.gBody.gName, .int .i64 d262_.gBody.gNum, .sl (List.map GTerm.c d262_.gBody.gKids), .str d262_.gFile] []), (2, .cells [.sl (List.map GIns.c []), .sl (List.map GIns.c []), .int .i64 0] [(0, .app 158), (1, .app 158)])], []⟩ _ (by kernel_rfl) (.cons (cimpl_WordsOf h289) .nil) ?_
      refine Wc.seq ?_
      obtain ⟨b267_, h290, h⟩ := obind h
      refine Wc.region [{ tk := [4] }, { tk := [6] }, {}, {}, {}, {}, { c := some (List.map GTerm.c [d262_.gHead, d262_.gBody]) }, { r := some (.v (.int .i64 b267_) []) }, { tk := [32, 33] }, { tk := [40] }] [] [2, 3] [2] [] ⟨[(2, (.ptr 2 0, [])), (3, (.v (.bool true), []))], [(2, .cells [.sl (List.map GIns.c j265_.1), .sl (List.map GIns.c j266_.1), .int .i64 b267_] [(0, .app 158), (1, .app 158)])], []⟩ _ (by kernel_rfl) (.cons (cl_cons (c := GTerm.c) (x := d262_.gHead) (GTerm.c_eq d262_.gHead) (cl_cons (c := GTerm.c) (x := d262_.gBody) (GTerm.c_eq d262_.gBody) (cl_nil GTerm.c))) (.cons (cimpl_varsUpTo h290) .nil)) ?_
      refine Wc.ret ?_
      obtain rfl := Option.some.inj h
      exact ⟨.inl rfl, by kernel_rfl, by kernel_rfl⟩

/-- laws.eqIns -/
def plaws_eqIns (k : Nat) (n268_ : GIns) (n269_ : GIns) : Option Bool :=
  if (n268_.gOp != n269_.gOp) = true then
    some false
  else
    if (!(sEq n268_.gName n269_.gName)) = true then
      some false
    else
      if (n268_.gNum != n269_.gNum) = true then
        some false
      else
        if (n268_.gMany != n269_.gMany) = true then
          some false
        else
          some true
theorem claws_eqIns {k : Nat} {n268_ : GIns} {n269_ : GIns} {r : Bool} (h : plaws_eqIns k n268_ n269_ = some r) : FnO Try.prog 128 [.v (.agg [.int .i64 n268_.gOp, .str n268_.gName, .int .i64 n268_.gNum, .int .i64 n268_.gMany]) [], .v (.agg [.int .i64 n269_.gOp, .str n269_.gName, .int .i64 n269_.gNum, .int .i64 n269_.gMany]) []] (.v (.bool r) []) [] := by
  refine FnO.of Try.func128 (rfl : Try.f128.body = some _) (Nat.le_of_ble_eq_true (by kernel_rfl)) (Nat.le_of_ble_eq_true (by kernel_rfl)) ?_
  intro w0 X0 Fin pv0 pb
  unfold plaws_eqIns at h
  refine Wc.seq ?_
  refine Wc.region [] [] [2, 3] [2, 3] [] ⟨[(2, (.ptr 2 0, [])), (3, (.ptr 3 0, []))], [(2, .cells [.int .i64 n268_.gOp, .str n268_.gName, .int .i64 n268_.gNum, .int .i64 n268_.gMany] []), (3, .cells [.int .i64 n269_.gOp, .str n269_.gName, .int .i64 n269_.gNum, .int .i64 n269_.gMany] [])], []⟩ _ (by kernel_rfl) .nil ?_
  refine Wc.seq ?_
  refine Wc.seq ?_
  refine Wc.region [] [] [2, 3, 9] [2, 3] [] ⟨[(2, (.ptr 2 0, [])), (3, (.ptr 3 0, [])), (9, (.v (.bool (n268_.gOp != n269_.gOp)), []))], [(2, .cells [.int .i64 n268_.gOp, .str n268_.gName, .int .i64 n268_.gNum, .int .i64 n268_.gMany] []), (3, .cells [.int .i64 n269_.gOp, .str n269_.gName, .int .i64 n269_.gNum, .int .i64 n269_.gMany] [])], []⟩ _ (by kernel_rfl) .nil ?_
  rcases oif h with ⟨h291, h⟩ | ⟨h291, h⟩
  · refine Wc.condT h291 (by kernel_rfl) ?_
    refine Wc.seq ?_
    refine Wc.region [] [] [4] [] [] ⟨[(4, (.v (.bool false), []))], [], []⟩ _ (by kernel_rfl) .nil ?_
    refine Wc.ret ?_
    obtain rfl := Option.some.inj h
    exact ⟨.inl rfl, by kernel_rfl, by kernel_rfl⟩
  · refine Wc.condF h291 (by kernel_rfl) ?_
    refine Wc.fix (st' := ⟨[(2, (.ptr 2 0, [])), (3, (.ptr 3 0, []))], [(2, .cells [.int .i64 n268_.gOp, .str n268_.gName, .int .i64 n268_.gNum, .int .i64 n268_.gMany] []), (3, .cells [.int .i64 n269_.gOp, .str n269_.gName, .int .i64 n269_.gNum, .int .i64 n269_.gMany] [])], []⟩) [] [2, 3] [2, 3] [] (by kernel_rfl) ?_
    refine Wc.skip ?_
    refine Wc.seq ?_
    refine Wc.seq ?_
    refine Wc.region [] [] [2, 3, 14] [2, 3] [] ⟨[(2, (.ptr 2 0, [])), (3, (.ptr 3 0, [])), (14, (.v (.bool (!(sEq n268_.gName n269_.gName))), []))], [(2, .cells [.int .i64 n268_.gOp, .str n268_.gName, .int .i64 n268_.gNum, .int .i64 n268_.gMany] []), (3, .cells [.int .i64 n269_.gOp, .str n269_.gName, .int .i64 n269_.gNum, .int .i64 n269_.gMany] [])], []⟩ _ (by kernel_rfl) .nil ?_
    rcases oif h with ⟨h292, h⟩ | ⟨h292, h⟩
    · refine Wc.condT h292 (by kernel_rfl) ?_
      refine Wc.seq ?_
      refine Wc.region [] [] [4] [] [] ⟨[(4, (.v (.bool false), []))], [], []⟩ _ (by kernel_rfl) .nil ?_
      refine Wc.ret ?_
      obtain rfl := Option.some.inj h
      exact ⟨.inl rfl, by kernel_rfl, by kernel_rfl⟩
    · refine Wc.condF h292 (by kernel_rfl) ?_
      refine Wc.fix (st' := ⟨[(2, (.ptr 2 0, [])), (3, (.ptr 3 0, []))], [(2, .cells [.int .i64 n268_.gOp, .str n268_.gName, .int .i64 n268_.gNum, .int .i64 n268_.gMany] []), (3, .cells [.int .i64 n269_.gOp, .str n269_.gName, .int .i64 n269_.gNum, .int .i64 n269_.gMany] [])], []⟩) [] [2, 3] [2, 3] [] (by kernel_rfl) ?_
      refine Wc.skip ?_
      refine Wc.seq ?_
      refine Wc.seq ?_
      refine Wc.region [] [] [2, 3, 19] [2, 3] [] ⟨[(2, (.ptr 2 0, [])), (3, (.ptr 3 0, [])), (19, (.v (.bool (n268_.gNum != n269_.gNum)), []))], [(2, .cells [.int .i64 n268_.gOp, .str n268_.gName, .int .i64 n268_.gNum, .int .i64 n268_.gMany] []), (3, .cells [.int .i64 n269_.gOp, .str n269_.gName, .int .i64 n269_.gNum, .int .i64 n269_.gMany] [])], []⟩ _ (by kernel_rfl) .nil ?_
      rcases oif h with ⟨h293, h⟩ | ⟨h293, h⟩
      · refine Wc.condT h293 (by kernel_rfl) ?_
        refine Wc.seq ?_
        refine Wc.region [] [] [4] [] [] ⟨[(4, (.v (.bool false), []))], [], []⟩ _ (by kernel_rfl) .nil ?_
        refine Wc.ret ?_
        obtain rfl := Option.some.inj h
        exact ⟨.inl rfl, by kernel_rfl, by kernel_rfl⟩
      · refine Wc.condF h293 (by kernel_rfl) ?_
        refine Wc.fix (st' := ⟨[(2, (.ptr 2 0, [])), (3, (.ptr 3 0, []))], [(2, .cells [.int .i64 n268_.gOp, .str n268_.gName, .int .i64 n268_.gNum, .int .i64 n268_.gMany] []), (3, .cells [.int .i64 n269_.gOp, .str n269_.gName, .int .i64 n269_.gNum, .int .i64 n269_.gMany] [])], []⟩) [] [2, 3] [2, 3] [] (by kernel_rfl) ?_
        refine Wc.skip ?_
        refine Wc.seq ?_
        refine Wc.seq ?_
        refine Wc.region [] [] [24] [] [] ⟨[(24, (.v (.bool (n268_.gMany != n269_.gMany)), []))], [], []⟩ _ (by kernel_rfl) .nil ?_
        rcases oif h with ⟨h294, h⟩ | ⟨h294, h⟩
        · refine Wc.condT h294 (by kernel_rfl) ?_
          refine Wc.seq ?_
          refine Wc.region [] [] [4] [] [] ⟨[(4, (.v (.bool false), []))], [], []⟩ _ (by kernel_rfl) .nil ?_
          refine Wc.ret ?_
          obtain rfl := Option.some.inj h
          exact ⟨.inl rfl, by kernel_rfl, by kernel_rfl⟩
        · refine Wc.condF h294 (by kernel_rfl) ?_
          refine Wc.fix (st' := ⟨[], [], []⟩) [] [] [] [] (by kernel_rfl) ?_
          refine Wc.skip ?_
          refine Wc.seq ?_
          refine Wc.region [] [] [4] [] [] ⟨[(4, (.v (.bool true), []))], [], []⟩ _ (by kernel_rfl) .nil ?_
          refine Wc.ret ?_
          obtain rfl := Option.some.inj h
          exact ⟨.inl rfl, by kernel_rfl, by kernel_rfl⟩

def plaws_eqInsS_L1 (k : Nat) (i270_ : List GIns) (i271_ : List GIns) : Nat → Int → Option (Out Bool Unit)
  | 0, _ => none
  | m + 1, b272_ =>
    if (decide (b272_ < (i270_.length : Int))) = true then
      (at' i270_ b272_).bind fun n273_ =>
      (at' i271_ b272_).bind fun n274_ =>
      (plaws_eqIns k n273_ n274_).bind fun f275_ =>
      if (!f275_) = true then
        some (.ret false)
      else
        plaws_eqInsS_L1 k i270_ i271_ m (wr.i64 (b272_ + 1))
    else
      some (.done ())
/-- laws.eqInsS -/
def plaws_eqInsS (k : Nat) (i270_ : List GIns) (i271_ : List GIns) : Option Bool :=
  if ((i270_.length : Int) != (i271_.length : Int)) = true then
    some false
  else
    (plaws_eqInsS_L1 k i270_ i271_ k 0).bind fun out1 => match out1 with
    | .ret r => some r
    | .done () =>
      some true
theorem claws_eqInsS {k : Nat} {i270_ : List GIns} {i271_ : List GIns} {r : Bool} (h : plaws_eqInsS k i270_ i271_ = some r) : FnO Try.prog 84 [.v (.sl (List.map GIns.c i270_)) [], .v (.sl (List.map GIns.c i271_)) []] (.v (.bool r) []) [] := by
  refine FnO.of Try.func84 (rfl : Try.f84.body = some _) (Nat.le_of_ble_eq_true (by kernel_rfl)) (Nat.le_of_ble_eq_true (by kernel_rfl)) ?_
  intro w0 X0 Fin pv0 pb
  unfold plaws_eqInsS at h
  refine Wc.seq ?_
  refine Wc.region [] [] [0, 1] [] [] ⟨[(0, (.v (.sl (List.map GIns.c i270_)), [])), (1, (.v (.sl (List.map GIns.c i271_)), []))], [], []⟩ _ (by kernel_rfl) .nil ?_
  refine Wc.seq ?_
  refine Wc.seq ?_
  refine Wc.region [{}, { v := some (.int .i64 (i270_.length : Int)) }, {}, { v := some (.int .i64 (i271_.length : Int)) }] [] [0, 1, 10] [] [] ⟨[(0, (.v (.sl (List.map GIns.c i270_)), [])), (1, (.v (.sl (List.map GIns.c i271_)), [])), (10, (.v (.bool ((i270_.length : Int) != (i271_.length : Int))), []))], [], []⟩ _ (by kernel_rfl) (.cons (len_obl GIns.c i270_) (.cons (len_obl GIns.c i271_) .nil)) ?_
  rcases oif h with ⟨h295, h⟩ | ⟨h295, h⟩
  · refine Wc.condT h295 (by kernel_rfl) ?_
    refine Wc.seq ?_
    refine Wc.region [] [] [4] [] [] ⟨[(4, (.v (.bool false), []))], [], []⟩ _ (by kernel_rfl) .nil ?_
    refine Wc.ret ?_
    obtain rfl := Option.some.inj h
    exact ⟨.inl rfl, by kernel_rfl, by kernel_rfl⟩
  · refine Wc.condF h295 (by kernel_rfl) ?_
    refine Wc.fix (st' := ⟨[(0, (.v (.sl (List.map GIns.c i270_)), [])), (1, (.v (.sl (List.map GIns.c i271_)), []))], [], []⟩) [] [0, 1] [] [] (by kernel_rfl) ?_
    refine Wc.skip ?_
    refine Wc.seq ?_
    refine Wc.seq ?_
    refine Wc.region [] [] [0, 1, 5] [] [] ⟨[(0, (.v (.sl (List.map GIns.c i270_)), [])), (1, (.v (.sl (List.map GIns.c i271_)), [])), (5, (.v (.int .i64 0), []))], [], []⟩ _ (by kernel_rfl) .nil ?_
    obtain ⟨out1, h296, h⟩ := obind h
    refine Wc.lastJ (fun st => out1 = .done () ∧ st = ⟨[], [], []⟩) ?_ ?_
    · refine Wc.block ?_
      refine Wc.loop (fun m st => ∃ (b272_ : Int), st = ⟨[(0, (.v (.sl (List.map GIns.c i270_)), [])), (1, (.v (.sl (List.map GIns.c i271_)), [])), (5, (.v (.int .i64 b272_), []))], [], []⟩ ∧ plaws_eqInsS_L1 k i270_ i271_ m b272_ = some out1) ?_ k ⟨_, rfl, h296⟩
      rintro m st ⟨b272_, rfl, h296⟩
      cases m with
      | zero => exact (onone h296).elim
      | succ m =>
        refine Wc.seq ?_
        refine Wc.seq ?_
        refine Wc.region [{}, {}, { v := some (.int .i64 (i270_.length : Int)) }] [] [0, 1, 5, 14] [] [] ⟨[(0, (.v (.sl (List.map GIns.c i270_)), [])), (1, (.v (.sl (List.map GIns.c i271_)), [])), (5, (.v (.int .i64 b272_), [])), (14, (.v (.bool (decide (b272_ < (i270_.length : Int)))), []))], [], []⟩ _ (by kernel_rfl) (.cons (len_obl GIns.c i270_) .nil) ?_
        rcases oif h296 with ⟨h297, h296⟩ | ⟨h297, h296⟩
        · refine Wc.condT h297 (by kernel_rfl) ?_
          refine Wc.fix (st' := ⟨[(0, (.v (.sl (List.map GIns.c i270_)), [])), (1, (.v (.sl (List.map GIns.c i271_)), [])), (5, (.v (.int .i64 b272_), []))], [], []⟩) [] [0, 1, 5] [] [] (by kernel_rfl) ?_
          refine Wc.skip ?_
          refine Wc.seq ?_
          refine Wc.block ?_
          refine Wc.seq ?_
          obtain ⟨n273_, h298, h296⟩ := obind h296
          obtain ⟨n274_, h299, h296⟩ := obind h296
          obtain ⟨f275_, h300, h296⟩ := obind h296
          refine Wc.draw hmix [{}, {}, { v := some (.vptr [.int .i64 n273_.gOp, .str n273_.gName, .int .i64 n273_.gNum, .int .i64 n273_.gMany]) }, {}, {}, {}, { v := some (.vptr [.int .i64 n274_.gOp, .str n274_.gName, .int .i64 n274_.gNum, .int .i64 n274_.gMany]) }, {}, { r := some (.v (.bool f275_) []) }] [] [0, 1, 5, 26] [] [] ⟨[(0, (.v (.sl (List.map GIns.c i270_)), [])), (1, (.v (.sl (List.map GIns.c i271_)), [])), (5, (.v (.int .i64 b272_), [])), (26, (.v (.bool (!f275_)), []))], [], []⟩ _ (by kernel_rfl) (fun X => by kernel_rfl) (.cons (at_obl (c := GIns.c) (GIns.c_eq n273_) GIns.c_len h298) (.cons (len_ok 4 [.int .i64 n273_.gOp, .str n273_.gName, .int .i64 n273_.gNum, .int .i64 n273_.gMany]) (.cons (at_obl (c := GIns.c) (GIns.c_eq n274_) GIns.c_len h299) (.cons (len_ok 4 [.int .i64 n274_.gOp, .str n274_.gName, .int .i64 n274_.gNum, .int .i64 n274_.gMany]) (.cons (claws_eqIns h300) .nil))))) ?_
          rcases oif h296 with ⟨h301, h296⟩ | ⟨h301, h296⟩
          · refine Wc.condT h301 (by kernel_rfl) ?_
            refine Wc.seq ?_
            refine Wc.region [] [] [4] [] [] ⟨[(4, (.v (.bool false), []))], [], []⟩ _ (by kernel_rfl) .nil ?_
            refine Wc.ret ?_
            obtain rfl := Option.some.inj h296
            obtain rfl := Option.some.inj h
            exact ⟨.inl rfl, by kernel_rfl, by kernel_rfl⟩
          · refine Wc.condF h301 (by kernel_rfl) ?_
            refine Wc.fix (st' := ⟨[(0, (.v (.sl (List.map GIns.c i270_)), [])), (1, (.v (.sl (List.map GIns.c i271_)), [])), (5, (.v (.int .i64 b272_), []))], [], []⟩) [] [0, 1, 5] [] [] (by kernel_rfl) ?_
            refine Wc.skip ?_
            refine Wc.region [] [] [0, 1, 5] [] [] ⟨[(0, (.v (.sl (List.map GIns.c i270_)), [])), (1, (.v (.sl (List.map GIns.c i271_)), [])), (5, (.v (.int .i64 (wr.i64 (b272_ + 1))), []))], [], []⟩ _ (by kernel_rfl) .nil ?_
            exact ⟨_, Nat.lt_succ_self _, _, rfl, h296⟩
        · refine Wc.condF h297 (by kernel_rfl) ?_
          refine Wc.fix (st' := ⟨[], [], []⟩) [] [] [] [] (by kernel_rfl) ?_
          refine Wc.exit ?_
          obtain rfl := Option.some.inj h296
          exact ⟨rfl, rfl⟩
    · rintro st ⟨rfl, rfl⟩
      refine Wc.seq ?_
      refine Wc.region [] [] [4] [] [] ⟨[(4, (.v (.bool true), []))], [], []⟩ _ (by kernel_rfl) .nil ?_
      refine Wc.ret ?_
      obtain rfl := Option.some.inj h
      exact ⟨.inl rfl, by kernel_rfl, by kernel_rfl⟩

/-- laws.eqCode -/
def plaws_eqCode (k : Nat) (o276_ : GCode) (o277_ : GCode) : Option Bool :=
  (plaws_eqInsS k o276_.gHead o277_.gHead).bind fun f278_ =>
  if (!f278_) = true then
    some false
  else
    (plaws_eqInsS k o276_.gBody o277_.gBody).bind fun f279_ =>
    if (!f279_) = true then
      some false
    else
      if (o276_.gVars != o277_.gVars) = true then
        some false
      else
        some true
theorem claws_eqCode {k : Nat} {o276_ : GCode} {o277_ : GCode} {r : Bool} (h : plaws_eqCode k o276_ o277_ = some r) : FnO Try.prog 29 [.v (.agg [.sl (List.map GIns.c o276_.gHead), .sl (List.map GIns.c o276_.gBody), .int .i64 o276_.gVars]) [], .v (.agg [.sl (List.map GIns.c o277_.gHead), .sl (List.map GIns.c o277_.gBody), .int .i64 o277_.gVars]) []] (.v (.bool r) []) [] := by
  refine FnO.of Try.func29 (rfl : Try.f29.body = some _) (Nat.le_of_ble_eq_true (by kernel_rfl)) (Nat.le_of_ble_eq_true (by kernel_rfl)) ?_
  intro w0 X0 Fin pv0 pb
  unfold plaws_eqCode at h
  refine Wc.seq ?_
  refine Wc.region [] [] [2, 3] [2, 3] [] ⟨[(2, (.ptr 2 0, [])), (3, (.ptr 3 0, []))], [(2, .cells [.sl (List.map GIns.c o276_.gHead), .sl (List.map GIns.c o276_.gBody), .int .i64 o276_.gVars] []), (3, .cells [.sl (List.map GIns.c o277_.gHead), .sl (List.map GIns.c o277_.gBody), .int .i64 o277_.gVars] [])], []⟩ _ (by kernel_rfl) .nil ?_
  refine Wc.seq ?_
  refine Wc.seq ?_
  obtain ⟨f278_, h302, h⟩ := obind h
  refine Wc.region [{}, {}, {}, {}, { r := some (.v (.bool f278_) []) }] [] [2, 3, 10] [2, 3] [] ⟨[(2, (.ptr 2 0, [])), (3, (.ptr 3 0, [])), (10, (.v (.bool (!f278_)), []))], [(2, .cells [.sl (List.map GIns.c o276_.gHead), .sl (List.map GIns.c o276_.gBody), .int .i64 o276_.gVars] []), (3, .cells [.sl (List.map GIns.c o277_.gHead), .sl (List.map GIns.c o277_.gBody), .int .i64 o277_.gVars] [])], []⟩ _ (by kernel_rfl) (.cons (claws_eqInsS h302) .nil) ?_
  rcases oif h with ⟨h303, h⟩ | ⟨h303, h⟩
  · refine Wc.condT h303 (by kernel_rfl) ?_
    refine Wc.seq ?_
    refine Wc.region [] [] [4] [] [] ⟨[(4, (.v (.bool false), []))], [], []⟩ _ (by kernel_rfl) .nil ?_
    refine Wc.ret ?_
    obtain rfl := Option.some.inj h
    exact ⟨.inl rfl, by kernel_rfl, by kernel_rfl⟩
  · refine Wc.condF h303 (by kernel_rfl) ?_
    refine Wc.fix (st' := ⟨[(2, (.ptr 2 0, [])), (3, (.ptr 3 0, []))], [(2, .cells [.sl (List.map GIns.c o276_.gHead), .sl (List.map GIns.c o276_.gBody), .int .i64 o276_.gVars] []), (3, .cells [.sl (List.map GIns.c o277_.gHead), .sl (List.map GIns.c o277_.gBody), .int .i64 o277_.gVars] [])], []⟩) [] [2, 3] [2, 3] [] (by kernel_rfl) ?_
    refine Wc.skip ?_
    refine Wc.seq ?_
    refine Wc.seq ?_
    obtain ⟨f279_, h304, h⟩ := obind h
    refine Wc.region [{}, {}, {}, {}, { r := some (.v (.bool f279_) []) }] [] [2, 3, 16] [2, 3] [] ⟨[(2, (.ptr 2 0, [])), (3, (.ptr 3 0, [])), (16, (.v (.bool (!f279_)), []))], [(2, .cells [.sl (List.map GIns.c o276_.gHead), .sl (List.map GIns.c o276_.gBody), .int .i64 o276_.gVars] []), (3, .cells [.sl (List.map GIns.c o277_.gHead), .sl (List.map GIns.c o277_.gBody), .int .i64 o277_.gVars] [])], []⟩ _ (by kernel_rfl) (.cons (claws_eqInsS h304) .nil) ?_
    rcases oif h with ⟨h305, h⟩ | ⟨h305, h⟩
    · refine Wc.condT h305 (by kernel_rfl) ?_
      refine Wc.seq ?_
      refine Wc.region [] [] [4] [] [] ⟨[(4, (.v (.bool false), []))], [], []⟩ _ (by kernel_rfl) .nil ?_
      refine Wc.ret ?_
      obtain rfl := Option.some.inj h
      exact ⟨.inl rfl, by kernel_rfl, by kernel_rfl⟩
    · refine Wc.condF h305 (by kernel_rfl) ?_
      refine Wc.fix (st' := ⟨[(2, (.ptr 2 0, [])), (3, (.ptr 3 0, []))], [(2, .cells [.sl (List.map GIns.c o276_.gHead), .sl (List.map GIns.c o276_.gBody), .int .i64 o276_.gVars] []), (3, .cells [.sl (List.map GIns.c o277_.gHead), .sl (List.map GIns.c o277_.gBody), .int .i64 o277_.gVars] [])], []⟩) [] [2, 3] [2, 3] [] (by kernel_rfl) ?_
      refine Wc.skip ?_
      refine Wc.seq ?_
      refine Wc.seq ?_
      refine Wc.region [] [] [21] [] [] ⟨[(21, (.v (.bool (o276_.gVars != o277_.gVars)), []))], [], []⟩ _ (by kernel_rfl) .nil ?_
      rcases oif h with ⟨h306, h⟩ | ⟨h306, h⟩
      · refine Wc.condT h306 (by kernel_rfl) ?_
        refine Wc.seq ?_
        refine Wc.region [] [] [4] [] [] ⟨[(4, (.v (.bool false), []))], [], []⟩ _ (by kernel_rfl) .nil ?_
        refine Wc.ret ?_
        obtain rfl := Option.some.inj h
        exact ⟨.inl rfl, by kernel_rfl, by kernel_rfl⟩
      · refine Wc.condF h306 (by kernel_rfl) ?_
        refine Wc.fix (st' := ⟨[], [], []⟩) [] [] [] [] (by kernel_rfl) ?_
        refine Wc.skip ?_
        refine Wc.seq ?_
        refine Wc.region [] [] [4] [] [] ⟨[(4, (.v (.bool true), []))], [], []⟩ _ (by kernel_rfl) .nil ?_
        refine Wc.ret ?_
        obtain rfl := Option.some.inj h
        exact ⟨.inl rfl, by kernel_rfl, by kernel_rfl⟩

def plaws_eqTermS_L1 (k : Nat) (rlaws_eqTerm : GTerm → GTerm → Option Bool) (rlaws_eqTermS : (List GTerm) → (List GTerm) → Option Bool) (a283_ : List GTerm) (a284_ : List GTerm) : Nat → Int → Option (Out Bool Unit)
  | 0, _ => none
  | m + 1, b285_ =>
    if (decide (b285_ < (a283_.length : Int))) = true then
      (at' a283_ b285_).bind fun c286_ =>
      (at' a284_ b285_).bind fun c287_ =>
      (rlaws_eqTerm c286_ c287_).bind fun f288_ =>
      if (!f288_) = true then
        some (.ret false)
      else
        plaws_eqTermS_L1 k rlaws_eqTerm rlaws_eqTermS a283_ a284_ m (wr.i64 (b285_ + 1))
    else
      some (.done ())
mutual
/-- laws.eqTerm -/
def plaws_eqTerm : Nat → GTerm → GTerm → Option Bool
  | 0, _, _ => none
  | k + 1, c280_, c281_ =>
    if (c280_.gKind != c281_.gKind) = true then
      some false
    else
      if (!(sEq c280_.gName c281_.gName)) = true then
        some false
      else
        if (c280_.gNum != c281_.gNum) = true then
          some false
        else
          (plaws_eqTermS k c280_.gKids c281_.gKids).bind fun f282_ =>
          if (!f282_) = true then
            some false
          else
            some true
/-- laws.eqTermS -/
def plaws_eqTermS : Nat → (List GTerm) → (List GTerm) → Option Bool
  | 0, _, _ => none
  | k + 1, a283_, a284_ =>
    if ((a283_.length : Int) != (a284_.length : Int)) = true then
      some false
    else
      (plaws_eqTermS_L1 k (plaws_eqTerm k) (plaws_eqTermS k) a283_ a284_ k 0).bind fun out1 => match out1 with
      | .ret r => some r
      | .done () =>
        some true
end
theorem all_plaws_eqTerm : ∀ k : Nat, (∀ {c280_ : GTerm} {c281_ : GTerm} {r : Bool}, plaws_eqTerm k c280_ c281_ = some r → FnO Try.prog 20 [.v (.agg [.int .i64 c280_.gKind, .str c280_.gName, .int .i64 c280_.gNum, .sl (List.map GTerm.c c280_.gKids)]) [], .v (.agg [.int .i64 c281_.gKind, .str c281_.gName, .int .i64 c281_.gNum, .sl (List.map GTerm.c c281_.gKids)]) []] (.v (.bool r) []) []) ∧
    (∀ {a283_ : List GTerm} {a284_ : List GTerm} {r : Bool}, plaws_eqTermS k a283_ a284_ = some r → FnO Try.prog 71 [.v (.sl (List.map GTerm.c a283_)) [], .v (.sl (List.map GTerm.c a284_)) []] (.v (.bool r) []) []) := by
  intro k
  induction k with
  | zero =>
    refine ⟨?_, ?_⟩
    · intro c280_ c281_ r h
      exact (onone (by rw [plaws_eqTerm] at h; exact h)).elim
    · intro a283_ a284_ r h
      exact (onone (by rw [plaws_eqTermS] at h; exact h)).elim
  | succ k ih =>
    obtain ⟨ih_plaws_eqTerm, ih_plaws_eqTermS⟩ := ih
    refine ⟨?_, ?_⟩
    · intro c280_ c281_ r h
      rw [plaws_eqTerm] at h
      refine FnO.of Try.func20 (rfl : Try.f20.body = some _) (Nat.le_of_ble_eq_true (by kernel_rfl)) (Nat.le_of_ble_eq_true (by kernel_rfl)) ?_
      intro w0 X0 Fin pv0 pb
      refine Wc.seq ?_
      refine Wc.region [] [] [2, 3] [2, 3] [] ⟨[(2, (.ptr 2 0, [])), (3, (.ptr 3 0, []))], [(2, .cells [.int .i64 c280_.gKind, .str c280_.gName, .int .i64 c280_.gNum, .sl (List.map GTerm.c c280_.gKids)] []), (3, .cells [.int .i64 c281_.gKind, .str c281_.gName, .int .i64 c281_.gNum, .sl (List.map GTerm.c c281_.gKids)] [])], []⟩ _ (by kernel_rfl) .nil ?_
      refine Wc.seq ?_
      refine Wc.seq ?_
      refine Wc.region [] [] [2, 3, 9] [2, 3] [] ⟨[(2, (.ptr 2 0, [])), (3, (.ptr 3 0, [])), (9, (.v (.bool (c280_.gKind != c281_.gKind)), []))], [(2, .cells [.int .i64 c280_.gKind, .str c280_.gName, .int .i64 c280_.gNum, .sl (List.map GTerm.c c280_.gKids)] []), (3, .cells [.int .i64 c281_.gKind, .str c281_.gName, .int .i64 c281_.gNum, .sl (List.map GTerm.c c281_.gKids)] [])], []⟩ _ (by kernel_rfl) .nil ?_
      rcases oif h with ⟨h307, h⟩ | ⟨h307, h⟩
      · refine Wc.condT h307 (by kernel_rfl) ?_
        refine Wc.seq ?_
        refine Wc.region [] [] [4] [] [] ⟨[(4, (.v (.bool false), []))], [], []⟩ _ (by kernel_rfl) .nil ?_
        refine Wc.ret ?_
        obtain rfl := Option.some.inj h
        exact ⟨.inl rfl, by kernel_rfl, by kernel_rfl⟩
      · refine Wc.condF h307 (by kernel_rfl) ?_
        refine Wc.fix (st' := ⟨[(2, (.ptr 2 0, [])), (3, (.ptr 3 0, []))], [(2, .cells [.int .i64 c280_.gKind, .str c280_.gName, .int .i64 c280_.gNum, .sl (List.map GTerm.c c280_.gKids)] []), (3, .cells [.int .i64 c281_.gKind, .str c281_.gName, .int .i64 c281_.gNum, .sl (List.map GTerm.c c281_.gKids)] [])], []⟩) [] [2, 3] [2, 3] [] (by kernel_rfl) ?_
        refine Wc.skip ?_
        refine Wc.seq ?_
        refine Wc.seq ?_
        refine Wc.region [] [] [2, 3, 14] [2, 3] [] ⟨[(2, (.ptr 2 0, [])), (3, (.ptr 3 0, [])), (14, (.v (.bool (!(sEq c280_.gName c281_.gName))), []))], [(2, .cells [.int .i64 c280_.gKind, .str c280_.gName, .int .i64 c280_.gNum, .sl (List.map GTerm.c c280_.gKids)] []), (3, .cells [.int .i64 c281_.gKind, .str c281_.gName, .int .i64 c281_.gNum, .sl (List.map GTerm.c c281_.gKids)] [])], []⟩ _ (by kernel_rfl) .nil ?_
        rcases oif h with ⟨h308, h⟩ | ⟨h308, h⟩
        · refine Wc.condT h308 (by kernel_rfl) ?_
          refine Wc.seq ?_
          refine Wc.region [] [] [4] [] [] ⟨[(4, (.v (.bool false), []))], [], []⟩ _ (by kernel_rfl) .nil ?_
          refine Wc.ret ?_
          obtain rfl := Option.some.inj h
          exact ⟨.inl rfl, by kernel_rfl, by kernel_rfl⟩
        · refine Wc.condF h308 (by kernel_rfl) ?_
          refine Wc.fix (st' := ⟨[(2, (.ptr 2 0, [])), (3, (.ptr 3 0, []))], [(2, .cells [.int .i64 c280_.gKind, .str c280_.gName, .int .i64 c280_.gNum, .sl (List.map GTerm.c c280_.gKids)] []), (3, .cells [.int .i64 c281_.gKind, .str c281_.gName, .int .i64 c281_.gNum, .sl (List.map GTerm.c c281_.gKids)] [])], []⟩) [] [2, 3] [2, 3] [] (by kernel_rfl) ?_
          refine Wc.skip ?_
          refine Wc.seq ?_
          refine Wc.seq ?_
          refine Wc.region [] [] [2, 3, 19] [2, 3] [] ⟨[(2, (.ptr 2 0, [])), (3, (.ptr 3 0, [])), (19, (.v (.bool (c280_.gNum != c281_.gNum)), []))], [(2, .cells [.int .i64 c280_.gKind, .str c280_.gName, .int .i64 c280_.gNum, .sl (List.map GTerm.c c280_.gKids)] []), (3, .cells [.int .i64 c281_.gKind, .str c281_.gName, .int .i64 c281_.gNum, .sl (List.map GTerm.c c281_.gKids)] [])], []⟩ _ (by kernel_rfl) .nil ?_
          rcases oif h with ⟨h309, h⟩ | ⟨h309, h⟩
          · refine Wc.condT h309 (by kernel_rfl) ?_
            refine Wc.seq ?_
            refine Wc.region [] [] [4] [] [] ⟨[(4, (.v (.bool false), []))], [], []⟩ _ (by kernel_rfl) .nil ?_
            refine Wc.ret ?_
            obtain rfl := Option.some.inj h
            exact ⟨.inl rfl, by kernel_rfl, by kernel_rfl⟩
          · refine Wc.condF h309 (by kernel_rfl) ?_
            refine Wc.fix (st' := ⟨[(2, (.ptr 2 0, [])), (3, (.ptr 3 0, []))], [(2, .cells [.int .i64 c280_.gKind, .str c280_.gName, .int .i64 c280_.gNum, .sl (List.map GTerm.c c280_.gKids)] []), (3, .cells [.int .i64 c281_.gKind, .str c281_.gName, .int .i64 c281_.gNum, .sl (List.map GTerm.c c281_.gKids)] [])], []⟩) [] [2, 3] [2, 3] [] (by kernel_rfl) ?_
            refine Wc.skip ?_
            refine Wc.seq ?_
            refine Wc.seq ?_
            obtain ⟨f282_, h310, h⟩ := obind h
            refine Wc.region [{}, {}, {}, {}, { r := some (.v (.bool f282_) []) }] [] [25] [] [] ⟨[(25, (.v (.bool (!f282_)), []))], [], []⟩ _ (by kernel_rfl) (.cons (ih_plaws_eqTermS h310) .nil) ?_
            rcases oif h with ⟨h311, h⟩ | ⟨h311, h⟩
            · refine Wc.condT h311 (by kernel_rfl) ?_
              refine Wc.seq ?_
              refine Wc.region [] [] [4] [] [] ⟨[(4, (.v (.bool false), []))], [], []⟩ _ (by kernel_rfl) .nil ?_
              refine Wc.ret ?_
              obtain rfl := Option.some.inj h
              exact ⟨.inl rfl, by kernel_rfl, by kernel_rfl⟩
            · refine Wc.condF h311 (by kernel_rfl) ?_
              refine Wc.fix (st' := ⟨[], [], []⟩) [] [] [] [] (by kernel_rfl) ?_
              refine Wc.skip ?_
              refine Wc.seq ?_
              refine Wc.region [] [] [4] [] [] ⟨[(4, (.v (.bool true), []))], [], []⟩ _ (by kernel_rfl) .nil ?_
              refine Wc.ret ?_
              obtain rfl := Option.some.inj h
              exact ⟨.inl rfl, by kernel_rfl, by kernel_rfl⟩
    · intro a283_ a284_ r h
      rw [plaws_eqTermS] at h
      refine FnO.of Try.func71 (rfl : Try.f71.body = some _) (Nat.le_of_ble_eq_true (by kernel_rfl)) (Nat.le_of_ble_eq_true (by kernel_rfl)) ?_
      intro w0 X0 Fin pv0 pb
      refine Wc.seq ?_
      refine Wc.region [] [] [0, 1] [] [] ⟨[(0, (.v (.sl (List.map GTerm.c a283_)), [])), (1, (.v (.sl (List.map GTerm.c a284_)), []))], [], []⟩ _ (by kernel_rfl) .nil ?_
      refine Wc.seq ?_
      refine Wc.seq ?_
      refine Wc.region [{}, { v := some (.int .i64 (a283_.length : Int)) }, {}, { v := some (.int .i64 (a284_.length : Int)) }] [] [0, 1, 10] [] [] ⟨[(0, (.v (.sl (List.map GTerm.c a283_)), [])), (1, (.v (.sl (List.map GTerm.c a284_)), [])), (10, (.v (.bool ((a283_.length : Int) != (a284_.length : Int))), []))], [], []⟩ _ (by kernel_rfl) (.cons (len_obl GTerm.c a283_) (.cons (len_obl GTerm.c a284_) .nil)) ?_
      rcases oif h with ⟨h312, h⟩ | ⟨h312, h⟩
      · refine Wc.condT h312 (by kernel_rfl) ?_
        refine Wc.seq ?_
        refine Wc.region [] [] [4] [] [] ⟨[(4, (.v (.bool false), []))], [], []⟩ _ (by kernel_rfl) .nil ?_
        refine Wc.ret ?_
        obtain rfl := Option.some.inj h
        exact ⟨.inl rfl, by kernel_rfl, by kernel_rfl⟩
      · refine Wc.condF h312 (by kernel_rfl) ?_
        refine Wc.fix (st' := ⟨[(0, (.v (.sl (List.map GTerm.c a283_)), [])), (1, (.v (.sl (List.map GTerm.c a284_)), []))], [], []⟩) [] [0, 1] [] [] (by kernel_rfl) ?_
        refine Wc.skip ?_
        refine Wc.seq ?_
        refine Wc.seq ?_
        refine Wc.region [] [] [0, 1, 5] [] [] ⟨[(0, (.v (.sl (List.map GTerm.c a283_)), [])), (1, (.v (.sl (List.map GTerm.c a284_)), [])), (5, (.v (.int .i64 0), []))], [], []⟩ _ (by kernel_rfl) .nil ?_
        obtain ⟨out1, h313, h⟩ := obind h
        refine Wc.lastJ (fun st => out1 = .done () ∧ st = ⟨[], [], []⟩) ?_ ?_
        · refine Wc.block ?_
          refine Wc.loop (fun m st => ∃ (b285_ : Int), st = ⟨[(0, (.v (.sl (List.map GTerm.c a283_)), [])), (1, (.v (.sl (List.map GTerm.c a284_)), [])), (5, (.v (.int .i64 b285_), []))], [], []⟩ ∧ plaws_eqTermS_L1 k (plaws_eqTerm k) (plaws_eqTermS k) a283_ a284_ m b285_ = some out1) ?_ k ⟨_, rfl, h313⟩
          rintro m st ⟨b285_, rfl, h313⟩
          cases m with
          | zero => exact (onone h313).elim
          | succ m =>
            refine Wc.seq ?_
            refine Wc.seq ?_
            refine Wc.region [{}, {}, { v := some (.int .i64 (a283_.length : Int)) }] [] [0, 1, 5, 14] [] [] ⟨[(0, (.v (.sl (List.map GTerm.c a283_)), [])), (1, (.v (.sl (List.map GTerm.c a284_)), [])), (5, (.v (.int .i64 b285_), [])), (14, (.v (.bool (decide (b285_ < (a283_.length : Int)))), []))], [], []⟩ _ (by kernel_rfl) (.cons (len_obl GTerm.c a283_) .nil) ?_
            rcases oif h313 with ⟨h314, h313⟩ | ⟨h314, h313⟩
            · refine Wc.condT h314 (by kernel_rfl) ?_
              refine Wc.fix (st' := ⟨[(0, (.v (.sl (List.map GTerm.c a283_)), [])), (1, (.v (.sl (List.map GTerm.c a284_)), [])), (5, (.v (.int .i64 b285_), []))], [], []⟩) [] [0, 1, 5] [] [] (by kernel_rfl) ?_
              refine Wc.skip ?_
              refine Wc.seq ?_
              refine Wc.block ?_
              refine Wc.seq ?_
              obtain ⟨c286_, h315, h313⟩ := obind h313
              obtain ⟨c287_, h316, h313⟩ := obind h313
              obtain ⟨f288_, h317, h313⟩ := obind h313
              refine Wc.draw hmix [{}, {}, { v := some (.vptr [.int .i64 c286_.gKind, .str c286_.gName, .int .i64 c286_.gNum, .sl (List.map GTerm.c c286_.gKids)]) }, {}, {}, {}, { v := some (.vptr [.int .i64 c287_.gKind, .str c287_.gName, .int .i64 c287_.gNum, .sl (List.map GTerm.c c287_.gKids)]) }, {}, { r := some (.v (.bool f288_) []) }] [] [0, 1, 5, 26] [] [] ⟨[(0, (.v (.sl (List.map GTerm.c a283_)), [])), (1, (.v (.sl (List.map GTerm.c a284_)), [])), (5, (.v (.int .i64 b285_), [])), (26, (.v (.bool (!f288_)), []))], [], []⟩ _ (by kernel_rfl) (fun X => by kernel_rfl) (.cons (at_obl (c := GTerm.c) (GTerm.c_eq c286_) GTerm.c_len h315) (.cons (len_ok 4 [.int .i64 c286_.gKind, .str c286_.gName, .int .i64 c286_.gNum, .sl (List.map GTerm.c c286_.gKids)]) (.cons (at_obl (c := GTerm.c) (GTerm.c_eq c287_) GTerm.c_len h316) (.cons (len_ok 4 [.int .i64 c287_.gKind, .str c287_.gName, .int .i64 c287_.gNum, .sl (List.map GTerm.c c287_.gKids)]) (.cons (ih_plaws_eqTerm h317) .nil))))) ?_
              rcases oif h313 with ⟨h318, h313⟩ | ⟨h318, h313⟩
              · refine Wc.condT h318 (by kernel_rfl) ?_
                refine Wc.seq ?_
                refine Wc.region [] [] [4] [] [] ⟨[(4, (.v (.bool false), []))], [], []⟩ _ (by kernel_rfl) .nil ?_
                refine Wc.ret ?_
                obtain rfl := Option.some.inj h313
                obtain rfl := Option.some.inj h
                exact ⟨.inl rfl, by kernel_rfl, by kernel_rfl⟩
              · refine Wc.condF h318 (by kernel_rfl) ?_
                refine Wc.fix (st' := ⟨[(0, (.v (.sl (List.map GTerm.c a283_)), [])), (1, (.v (.sl (List.map GTerm.c a284_)), [])), (5, (.v (.int .i64 b285_), []))], [], []⟩) [] [0, 1, 5] [] [] (by kernel_rfl) ?_
                refine Wc.skip ?_
                refine Wc.region [] [] [0, 1, 5] [] [] ⟨[(0, (.v (.sl (List.map GTerm.c a283_)), [])), (1, (.v (.sl (List.map GTerm.c a284_)), [])), (5, (.v (.int .i64 (wr.i64 (b285_ + 1))), []))], [], []⟩ _ (by kernel_rfl) .nil ?_
                exact ⟨_, Nat.lt_succ_self _, _, rfl, h313⟩
            · refine Wc.condF h314 (by kernel_rfl) ?_
              refine Wc.fix (st' := ⟨[], [], []⟩) [] [] [] [] (by kernel_rfl) ?_
              refine Wc.exit ?_
              obtain rfl := Option.some.inj h313
              exact ⟨rfl, rfl⟩
        · rintro st ⟨rfl, rfl⟩
          refine Wc.seq ?_
          refine Wc.region [] [] [4] [] [] ⟨[(4, (.v (.bool true), []))], [], []⟩ _ (by kernel_rfl) .nil ?_
          refine Wc.ret ?_
          obtain rfl := Option.some.inj h
          exact ⟨.inl rfl, by kernel_rfl, by kernel_rfl⟩
theorem claws_eqTerm {k : Nat} {c280_ : GTerm} {c281_ : GTerm} {r : Bool} (h : plaws_eqTerm k c280_ c281_ = some r) : FnO Try.prog 20 [.v (.agg [.int .i64 c280_.gKind, .str c280_.gName, .int .i64 c280_.gNum, .sl (List.map GTerm.c c280_.gKids)]) [], .v (.agg [.int .i64 c281_.gKind, .str c281_.gName, .int .i64 c281_.gNum, .sl (List.map GTerm.c c281_.gKids)]) []] (.v (.bool r) []) [] := (all_plaws_eqTerm k).1 h
theorem claws_eqTermS {k : Nat} {a283_ : List GTerm} {a284_ : List GTerm} {r : Bool} (h : plaws_eqTermS k a283_ a284_ = some r) : FnO Try.prog 71 [.v (.sl (List.map GTerm.c a283_)) [], .v (.sl (List.map GTerm.c a284_)) []] (.v (.bool r) []) [] := (all_plaws_eqTerm k).2 h

/-- laws.eqClause -/
def plaws_eqClause (k : Nat) (d289_ : GClause) (d290_ : GClause) : Option Bool :=
  (plaws_eqTerm k d289_.gHead d290_.gHead).bind fun f291_ =>
  if (!f291_) = true then
    some false
  else
    (plaws_eqTerm k d289_.gBody d290_.gBody).bind fun f292_ =>
    if (!f292_) = true then
      some false
    else
      if (!(sEq d289_.gFile d290_.gFile)) = true then
        some false
      else
        some true
theorem claws_eqClause {k : Nat} {d289_ : GClause} {d290_ : GClause} {r : Bool} (h : plaws_eqClause k d289_ d290_ = some r) : FnO Try.prog 30 [.v (.agg [.int .i64 d289_.gHead.gKind, .str d289_.gHead.gName, .int .i64 d289_.gHead.gNum, .sl (List.map GTerm.c d289_.gHead.gKids), .int .i64 d289_.gBody.gKind, .str d289_.gBody.gName, .int .i64 d289_.gBody.gNum, .sl (List.map GTerm.c d289_.gBody.gKids), .str d289_.gFile]) [], .v (.agg [.int .i64 d290_.gHead.gKind, .str d290_.gHead.gName, .int .i64 d290_.gHead.gNum, .sl (List.map GTerm.c d290_.gHead.gKids), .int .i64 d290_.gBody.gKind, .str d290_.gBody.gName, .int .i64 d290_.gBody.gNum, .sl (List.map GTerm.c d290_.gBody.gKids), .str d290_.gFile]) []] (.v (.bool r) []) [] := by
  refine FnO.of Try.func30 (rfl : Try.f30.body = some _) (Nat.le_of_ble_eq_true (by kernel_rfl)) (Nat.le_of_ble_eq_true (by kernel_rfl)) ?_
  intro w0 X0 Fin pv0 pb
  unfold plaws_eqClause at h
  refine Wc.seq ?_
  refine Wc.region [] [] [2, 3] [2, 3] [] ⟨[(2, (.ptr 2 0, [])), (3, (.ptr 3 0, []))], [(2, .cells [.int .i64 d289_.gHead.gKind, .str d289_.gHead.gName, .int .i64 d289_.gHead.gNum, .sl (List.map GTerm.c d289_.gHead.gKids), .int .i64 d289_.gBody.gKind, .str d289_.gBody.gName, .int .i64 d289_.gBody.gNum, .sl (List.map GTerm.c d289_.gBody.gKids), .str d289_.gFile] []), (3, .cells [.int .i64 d290_.gHead.gKind, .str d290_.gHead.gName, .int .i64 d290_.gHead.gNum, .sl (List.map GTerm.c d290_.gHead.gKids), .int .i64 d290_.gBody.gKind, .str d290_.gBody.gName, .int .i64 d290_.gBody.gNum, .sl (List.map GTerm.c d290_.gBody.gKids), .str d290_.gFile] [])], []⟩ _ (by kernel_rfl) .nil ?_
  refine Wc.seq ?_
  refine Wc.seq ?_
  obtain ⟨f291_, h319, h⟩ := obind h
  refine Wc.region [{}, {}, {}, {}, { r := some (.v (.bool f291_) []) }] [] [2, 3, 10] [2, 3] [] ⟨[(2, (.ptr 2 0, [])), (3, (.ptr 3 0, [])), (10, (.v (.bool (!f291_)), []))], [(2, .cells [.int .i64 d289_.gHead.gKind, .str d289_.gHead.gName, .int .i64 d289_.gHead.gNum, .sl (List.map GTerm.c d289_.gHead.gKids), .int .i64 d289_.gBody.gKind, .str d289_.gBody.gName, .int .i64 d289_.gBody.gNum, .sl (List.map GTerm.c d289_.gBody.gKids), .str d289_.gFile] []), (3, .cells [.int .i64 d290_.gHead.gKind, .str d290_.gHead.gName, .int .i64 d290_.gHead.gNum, .sl (List.map GTerm.c d290_.gHead.gKids), .int .i64 d290_.gBody.gKind, .str d290_.gBody.gName, .int .i64 d290_.gBody.gNum, .sl (List.map GTerm.c d290_.gBody.gKids), .str d290_.gFile] [])], []⟩ _ (by kernel_rfl) (.cons (claws_eqTerm h319) .nil) ?_
  rcases oif h with ⟨h320, h⟩ | ⟨h320, h⟩
  · refine Wc.condT h320 (by kernel_rfl) ?_
    refine Wc.seq ?_
    refine Wc.region [] [] [4] [] [] ⟨[(4, (.v (.bool false), []))], [], []⟩ _ (by kernel_rfl) .nil ?_
    refine Wc.ret ?_
    obtain rfl := Option.some.inj h
    exact ⟨.inl rfl, by kernel_rfl, by kernel_rfl⟩
  · refine Wc.condF h320 (by kernel_rfl) ?_
    refine Wc.fix (st' := ⟨[(2, (.ptr 2 0, [])), (3, (.ptr 3 0, []))], [(2, .cells [.int .i64 d289_.gHead.gKind, .str d289_.gHead.gName, .int .i64 d289_.gHead.gNum, .sl (List.map GTerm.c d289_.gHead.gKids), .int .i64 d289_.gBody.gKind, .str d289_.gBody.gName, .int .i64 d289_.gBody.gNum, .sl (List.map GTerm.c d289_.gBody.gKids), .str d289_.gFile] []), (3, .cells [.int .i64 d290_.gHead.gKind, .str d290_.gHead.gName, .int .i64 d290_.gHead.gNum, .sl (List.map GTerm.c d290_.gHead.gKids), .int .i64 d290_.gBody.gKind, .str d290_.gBody.gName, .int .i64 d290_.gBody.gNum, .sl (List.map GTerm.c d290_.gBody.gKids), .str d290_.gFile] [])], []⟩) [] [2, 3] [2, 3] [] (by kernel_rfl) ?_
    refine Wc.skip ?_
    refine Wc.seq ?_
    refine Wc.seq ?_
    obtain ⟨f292_, h321, h⟩ := obind h
    refine Wc.region [{}, {}, {}, {}, { r := some (.v (.bool f292_) []) }] [] [2, 3, 16] [2, 3] [] ⟨[(2, (.ptr 2 0, [])), (3, (.ptr 3 0, [])), (16, (.v (.bool (!f292_)), []))], [(2, .cells [.int .i64 d289_.gHead.gKind, .str d289_.gHead.gName, .int .i64 d289_.gHead.gNum, .sl (List.map GTerm.c d289_.gHead.gKids), .int .i64 d289_.gBody.gKind, .str d289_.gBody.gName, .int .i64 d289_.gBody.gNum, .sl (List.map GTerm.c d289_.gBody.gKids), .str d289_.gFile] []), (3, .cells [.int .i64 d290_.gHead.gKind, .str d290_.gHead.gName, .int .i64 d290_.gHead.gNum, .sl (List.map GTerm.c d290_.gHead.gKids), .int .i64 d290_.gBody.gKind, .str d290_.gBody.gName, .int .i64 d290_.gBody.gNum, .sl (List.map GTerm.c d290_.gBody.gKids), .str d290_.gFile] [])], []⟩ _ (by kernel_rfl) (.cons (claws_eqTerm h321) .nil) ?_
    rcases oif h with ⟨h322, h⟩ | ⟨h322, h⟩
    · refine Wc.condT h322 (by kernel_rfl) ?_
      refine Wc.seq ?_
      refine Wc.region [] [] [4] [] [] ⟨[(4, (.v (.bool false), []))], [], []⟩ _ (by kernel_rfl) .nil ?_
      refine Wc.ret ?_
      obtain rfl := Option.some.inj h
      exact ⟨.inl rfl, by kernel_rfl, by kernel_rfl⟩
    · refine Wc.condF h322 (by kernel_rfl) ?_
      refine Wc.fix (st' := ⟨[(2, (.ptr 2 0, [])), (3, (.ptr 3 0, []))], [(2, .cells [.int .i64 d289_.gHead.gKind, .str d289_.gHead.gName, .int .i64 d289_.gHead.gNum, .sl (List.map GTerm.c d289_.gHead.gKids), .int .i64 d289_.gBody.gKind, .str d289_.gBody.gName, .int .i64 d289_.gBody.gNum, .sl (List.map GTerm.c d289_.gBody.gKids), .str d289_.gFile] []), (3, .cells [.int .i64 d290_.gHead.gKind, .str d290_.gHead.gName, .int .i64 d290_.gHead.gNum, .sl (List.map GTerm.c d290_.gHead.gKids), .int .i64 d290_.gBody.gKind, .str d290_.gBody.gName, .int .i64 d290_.gBody.gNum, .sl (List.map GTerm.c d290_.gBody.gKids), .str d290_.gFile] [])], []⟩) [] [2, 3] [2, 3] [] (by kernel_rfl) ?_
      refine Wc.skip ?_
      refine Wc.seq ?_
      refine Wc.seq ?_
      refine Wc.region [] [] [21] [] [] ⟨[(21, (.v (.bool (!(sEq d289_.gFile d290_.gFile))), []))], [], []⟩ _ (by kernel_rfl) .nil ?_
      rcases oif h with ⟨h323, h⟩ | ⟨h323, h⟩
      · refine Wc.condT h323 (by kernel_rfl) ?_
        refine Wc.seq ?_
        refine Wc.region [] [] [4] [] [] ⟨[(4, (.v (.bool false), []))], [], []⟩ _ (by kernel_rfl) .nil ?_
        refine Wc.ret ?_
        obtain rfl := Option.some.inj h
        exact ⟨.inl rfl, by kernel_rfl, by kernel_rfl⟩
      · refine Wc.condF h323 (by kernel_rfl) ?_
        refine Wc.fix (st' := ⟨[], [], []⟩) [] [] [] [] (by kernel_rfl) ?_
        refine Wc.skip ?_
        refine Wc.seq ?_
        refine Wc.region [] [] [4] [] [] ⟨[(4, (.v (.bool true), []))], [], []⟩ _ (by kernel_rfl) .nil ?_
        refine Wc.ret ?_
        obtain rfl := Option.some.inj h
        exact ⟨.inl rfl, by kernel_rfl, by kernel_rfl⟩

def plaws_markText_L1 (k : Nat) : Nat → Int → ByteArray → Option (Out ByteArray ByteArray)
  | 0, _, _ => none
  | m + 1, b294_, e295_ =>
    if (decide (b294_ > 0)) = true then
      if (10 : Int) ≠ 0 then
        if sumOk (strOfNums [wr.u8 (wr.i64 (48 + (Int.tmod b294_ 10)))]) e295_ then
          if (10 : Int) ≠ 0 then
            plaws_markText_L1 k m (wr.i64 (Int.tdiv b294_ 10)) ((strOfNums [wr.u8 (wr.i64 (48 + (Int.tmod b294_ 10)))]) ++ e295_)
          else none
        else none
      else none
    else
      some (.done e295_)
/-- laws.markText -/
def plaws_markText (k : Nat) (b293_ : Int) : Option ByteArray :=
  if (decide (b293_ ≤ 0)) = true then
    some (bs [109, 48])
  else
    (plaws_markText_L1 k k b293_ (bs [])).bind fun out1 => match out1 with
    | .ret r => some r
    | .done e296_ =>
      if sumOk (bs [109]) e296_ then
        some ((bs [109]) ++ e296_)
      else none
theorem claws_markText {k : Nat} {b293_ : Int} {r : ByteArray} (h : plaws_markText k b293_ = some r) : FnO Try.prog 108 [.v (.int .i64 b293_) []] (.v (.str r) []) [] := by
  refine FnO.of Try.func108 (rfl : Try.f108.body = some _) (Nat.le_of_ble_eq_true (by kernel_rfl)) (Nat.le_of_ble_eq_true (by kernel_rfl)) ?_
  intro w0 X0 Fin pv0 pb
  unfold plaws_markText at h
  refine Wc.seq ?_
  refine Wc.region [] [] [0] [] [] ⟨[(0, (.v (.int .i64 b293_), []))], [], []⟩ _ (by kernel_rfl) .nil ?_
  refine Wc.seq ?_
  refine Wc.seq ?_
  refine Wc.region [] [] [0, 5] [] [] ⟨[(0, (.v (.int .i64 b293_), [])), (5, (.v (.bool (decide (b293_ ≤ 0))), []))], [], []⟩ _ (by kernel_rfl) .nil ?_
  rcases oif h with ⟨h324, h⟩ | ⟨h324, h⟩
  · refine Wc.condT h324 (by kernel_rfl) ?_
    refine Wc.seq ?_
    refine Wc.region [] [] [2] [] [] ⟨[(2, (.v (.str (bs [109, 48])), []))], [], []⟩ _ (by kernel_rfl) .nil ?_
    refine Wc.ret ?_
    obtain rfl := Option.some.inj h
    exact ⟨.inl rfl, by kernel_rfl, by kernel_rfl⟩
  · refine Wc.condF h324 (by kernel_rfl) ?_
    refine Wc.fix (st' := ⟨[(0, (.v (.int .i64 b293_), []))], [], []⟩) [] [0] [] [] (by kernel_rfl) ?_
    refine Wc.skip ?_
    refine Wc.seq ?_
    refine Wc.region [] [] [0, 3] [] [] ⟨[(0, (.v (.int .i64 b293_), [])), (3, (.v (.str (bs [])), []))], [], []⟩ _ (by kernel_rfl) .nil ?_
    obtain ⟨out1, h325, h⟩ := obind h
    refine Wc.seqJ (fun st => ∃ (e296_ : ByteArray), out1 = .done e296_ ∧ st = ⟨[(3, (.v (.str e296_), []))], [], []⟩) ?_ ?_
    · refine Wc.block ?_
      refine Wc.loop (fun m st => ∃ (b294_ : Int) (e295_ : ByteArray), st = ⟨[(0, (.v (.int .i64 b294_), [])), (3, (.v (.str e295_), []))], [], []⟩ ∧ plaws_markText_L1 k m b294_ e295_ = some out1) ?_ k ⟨_, _, rfl, h325⟩
      rintro m st ⟨b294_, e295_, rfl, h325⟩
      cases m with
      | zero => exact (onone h325).elim
      | succ m =>
        refine Wc.seq ?_
        refine Wc.seq ?_
        refine Wc.region [] [] [0, 3, 7] [] [] ⟨[(0, (.v (.int .i64 b294_), [])), (3, (.v (.str e295_), [])), (7, (.v (.bool (decide (b294_ > 0))), []))], [], []⟩ _ (by kernel_rfl) .nil ?_
        rcases oif h325 with ⟨h326, h325⟩ | ⟨h326, h325⟩
        · refine Wc.condT h326 (by kernel_rfl) ?_
          refine Wc.fix (st' := ⟨[(0, (.v (.int .i64 b294_), [])), (3, (.v (.str e295_), []))], [], []⟩) [] [0, 3] [] [] (by kernel_rfl) ?_
          refine Wc.skip ?_
          refine Wc.block ?_
          refine Wc.seq ?_
          obtain ⟨h327, h325⟩ := oguard h325
          obtain ⟨h328, h325⟩ := oguard h325
          refine Wc.region [{}, {}, {}, {}, { c := some (List.map cI.u8 [wr.u8 (wr.i64 (48 + (Int.tmod b294_ 10)))]) }, { v := some (.str (strOfNums [wr.u8 (wr.i64 (48 + (Int.tmod b294_ 10)))])) }] [] [0, 3] [] [] ⟨[(0, (.v (.int .i64 b294_), [])), (3, (.v (.str ((strOfNums [wr.u8 (wr.i64 (48 + (Int.tmod b294_ 10)))]) ++ e295_)), []))], [], []⟩ _ (by kernel_rfl) (.cons h327 (.cons (cl_cons (c := cI.u8) (x := wr.u8 (wr.i64 (48 + (Int.tmod b294_ 10)))) rfl (cl_nil cI.u8)) (.cons (bytes_obl [wr.u8 (wr.i64 (48 + (Int.tmod b294_ 10)))]) (.cons h328 .nil)))) ?_
          obtain ⟨h329, h325⟩ := oguard h325
          refine Wc.region [] [] [0, 3] [] [] ⟨[(0, (.v (.int .i64 (wr.i64 (Int.tdiv b294_ 10))), [])), (3, (.v (.str ((strOfNums [wr.u8 (wr.i64 (48 + (Int.tmod b294_ 10)))]) ++ e295_)), []))], [], []⟩ _ (by kernel_rfl) (.cons h329 .nil) ?_
          exact ⟨_, Nat.lt_succ_self _, _, _, rfl, h325⟩
        · refine Wc.condF h326 (by kernel_rfl) ?_
          refine Wc.fix (st' := ⟨[(3, (.v (.str e295_), []))], [], []⟩) [] [3] [] [] (by kernel_rfl) ?_
          refine Wc.exit ?_
          obtain rfl := Option.some.inj h325
          exact ⟨_, rfl, rfl⟩
    · rintro st ⟨e296_, rfl, rfl⟩
      refine Wc.seq ?_
      obtain ⟨h330, h⟩ := oguard h
      refine Wc.region [] [] [2] [] [] ⟨[(2, (.v (.str ((bs [109]) ++ e296_)), []))], [], []⟩ _ (by kernel_rfl) (.cons h330 .nil) ?_
      refine Wc.ret ?_
      obtain rfl := Option.some.inj h
      exact ⟨.inl rfl, by kernel_rfl, by kernel_rfl⟩

def plaws_markTermS_L1 (k : Nat) (rlaws_markTermS : (List GTerm) → Int → Option ((List GTerm) × Int)) : Nat → Int → Int → (List GTerm) → Option (Out ((List GTerm) × Int) (Int × (List GTerm)))
  | 0, _, _, _ => none
  | m + 1, b299_, b300_, a301_ =>
    if (decide (b300_ < (a301_.length : Int))) = true then
      (at' a301_ b300_).bind fun c304_ =>
      (plaws_markText k (wr.i64 (b299_ + 1))).bind fun e305_ =>
      (at' (a301_.set ((b300_).toNat) (GTerm.mk b299_ c304_.gName c304_.gNum c304_.gKids)) b300_).bind fun c306_ =>
      (at' ((a301_.set ((b300_).toNat) (GTerm.mk b299_ c304_.gName c304_.gNum c304_.gKids)).set ((b300_).toNat) (GTerm.mk c306_.gKind e305_ c306_.gNum c306_.gKids)) b300_).bind fun c307_ =>
      (at' (((a301_.set ((b300_).toNat) (GTerm.mk b299_ c304_.gName c304_.gNum c304_.gKids)).set ((b300_).toNat) (GTerm.mk c306_.gKind e305_ c306_.gNum c306_.gKids)).set ((b300_).toNat) (GTerm.mk c307_.gKind c307_.gName (wr.i64 ((wr.i64 (b299_ + 1)) + 1)) c307_.gKids)) b300_).bind fun c308_ =>
      (rlaws_markTermS c308_.gKids (wr.i64 ((wr.i64 ((wr.i64 (b299_ + 1)) + 1)) + 1))).bind fun p309_ =>
      plaws_markTermS_L1 k rlaws_markTermS m p309_.2 (wr.i64 (b300_ + 1)) ((((a301_.set ((b300_).toNat) (GTerm.mk b299_ c304_.gName c304_.gNum c304_.gKids)).set ((b300_).toNat) (GTerm.mk c306_.gKind e305_ c306_.gNum c306_.gKids)).set ((b300_).toNat) (GTerm.mk c307_.gKind c307_.gName (wr.i64 ((wr.i64 (b299_ + 1)) + 1)) c307_.gKids)).set ((b300_).toNat) (GTerm.mk c308_.gKind c308_.gName c308_.gNum p309_.1))
    else
      some (.done (b299_, a301_))
mutual
/-- laws.markTermS -/
def plaws_markTermS : Nat → (List GTerm) → Int → Option ((List GTerm) × Int)
  | 0, _, _ => none
  | k + 1, a297_, b298_ =>
    (plaws_markTermS_L1 k (plaws_markTermS k) k b298_ 0 a297_).bind fun out1 => match out1 with
    | .ret r => some r
    | .done (b302_, a303_) =>
      some (a303_, b302_)
end
theorem all_plaws_markTermS : ∀ k : Nat, (∀ {a297_ : List GTerm} {b298_ : Int} {r : (List GTerm) × Int}, plaws_markTermS k a297_ b298_ = some r → FnO Try.prog 76 [.io (.slx) [(0, .ex 1000000007 true (List.map GTerm.c a297_))], .v (.int .i64 b298_) []] (.v (.int .i64 r.2) []) [(0, .v .undef [(0, .ex 1000000007 true (List.map GTerm.c r.1))])]) := by
  intro k
  induction k with
  | zero =>
    · intro a297_ b298_ r h
      exact (onone (by rw [plaws_markTermS] at h; exact h)).elim
  | succ k ih =>
    have ih_plaws_markTermS := @ih
    · intro a297_ b298_ r h
      rw [plaws_markTermS] at h
      refine FnO.of Try.func76 (rfl : Try.f76.body = some _) (Nat.le_of_ble_eq_true (by kernel_rfl)) (Nat.le_of_ble_eq_true (by kernel_rfl)) ?_
      intro w0 X0 Fin pv0 pb
      refine Wc.seq ?_
      refine Wc.region [] [] [0, 1] [] [0] ⟨[(0, (.v (.slx), [(0, .al (.a 0 0) [])])), (1, (.v (.int .i64 b298_), []))], [], [(0, [(0, .ex 1000000007 true (List.map GTerm.c a297_))])]⟩ _ (by kernel_rfl) .nil ?_
      refine Wc.seq ?_
      refine Wc.seq ?_
      refine Wc.region [] [] [0, 1, 5] [] [0] ⟨[(0, (.v (.slx), [(0, .al (.a 0 0) [])])), (1, (.v (.int .i64 b298_), [])), (5, (.v (.int .i64 0), []))], [], [(0, [(0, .ex 1000000007 true (List.map GTerm.c a297_))])]⟩ _ (by kernel_rfl) .nil ?_
      obtain ⟨out1, h331, h⟩ := obind h
      refine Wc.lastJ (fun st => ∃ (b302_ : Int) (a303_ : List GTerm), out1 = .done (b302_, a303_) ∧ st = ⟨[(1, (.v (.int .i64 b302_), []))], [], [(0, [(0, .ex 1000000007 true (List.map GTerm.c a303_))])]⟩) ?_ ?_
      · refine Wc.block ?_
        refine Wc.loop (fun m st => ∃ (b299_ : Int) (b300_ : Int) (a301_ : List GTerm), st = ⟨[(0, (.v (.slx), [(0, .al (.a 0 0) [])])), (1, (.v (.int .i64 b299_), [])), (5, (.v (.int .i64 b300_), []))], [], [(0, [(0, .ex 1000000007 true (List.map GTerm.c a301_))])]⟩ ∧ plaws_markTermS_L1 k (plaws_markTermS k) m b299_ b300_ a301_ = some out1) ?_ k ⟨_, _, _, rfl, h331⟩
        rintro m st ⟨b299_, b300_, a301_, rfl, h331⟩
        cases m with
        | zero => exact (onone h331).elim
        | succ m =>
          refine Wc.seq ?_
          refine Wc.seq ?_
          refine Wc.region [{}, {}, { v := some (.int .i64 (a301_.length : Int)) }] [] [0, 1, 5, 9] [] [0] ⟨[(0, (.v (.slx), [(0, .al (.a 0 0) [])])), (1, (.v (.int .i64 b299_), [])), (5, (.v (.int .i64 b300_), [])), (9, (.v (.bool (decide (b300_ < (a301_.length : Int)))), []))], [], [(0, [(0, .ex 1000000007 true (List.map GTerm.c a301_))])]⟩ _ (by kernel_rfl) (.cons (len_obl GTerm.c a301_) .nil) ?_
          rcases oif h331 with ⟨h332, h331⟩ | ⟨h332, h331⟩
          · refine Wc.condT h332 (by kernel_rfl) ?_
            refine Wc.fix (st' := ⟨[(0, (.v (.slx), [(0, .al (.a 0 0) [])])), (1, (.v (.int .i64 b299_), [])), (5, (.v (.int .i64 b300_), []))], [], [(0, [(0, .ex 1000000007 true (List.map GTerm.c a301_))])]⟩) [] [0, 1, 5] [] [0] (by kernel_rfl) ?_
            refine Wc.skip ?_
            refine Wc.seq ?_
            refine Wc.block ?_
            refine Wc.seq ?_
            obtain ⟨c304_, h333, h331⟩ := obind h331
            refine Wc.region [{}, {}, {}, {}, {}, { c := some (List.map GTerm.c (a301_.set ((b300_).toNat) (GTerm.mk b299_ c304_.gName c304_.gNum c304_.gKids))) }] [] [0, 1, 5] [] [0] ⟨[(0, (.v (.slx), [(0, .al (.a 0 0) [])])), (1, (.v (.int .i64 b299_), [])), (5, (.v (.int .i64 b300_), []))], [], [(0, [(0, .ex 1000000007 true (List.map GTerm.c (a301_.set ((b300_).toNat) (GTerm.mk b299_ c304_.gName c304_.gNum c304_.gKids))))])]⟩ _ (by kernel_rfl) (.cons (ix_obl (c := GTerm.c) GTerm.c_len h333) (.cons (mod_obl (off := 0) (new := [.int .i64 b299_]) (c := GTerm.c) (GTerm.c_eq c304_) (GTerm.c_eq (GTerm.mk b299_ c304_.gName c304_.gNum c304_.gKids)) (at'_spec h333).2 rfl) (.cons (st_obl (sz := 4) (off := 0) (s := 1) (c := GTerm.c) (GTerm.c_eq c304_) (at'_spec h333).2 rfl (Nat.le_of_ble_eq_true rfl)) .nil))) ?_
            refine Wc.seq ?_
            refine Wc.region [] [] [0, 1, 5] [] [0] ⟨[(0, (.v (.slx), [(0, .al (.a 0 0) [])])), (1, (.v (.int .i64 (wr.i64 (b299_ + 1))), [])), (5, (.v (.int .i64 b300_), []))], [], [(0, [(0, .ex 1000000007 true (List.map GTerm.c (a301_.set ((b300_).toNat) (GTerm.mk b299_ c304_.gName c304_.gNum c304_.gKids))))])]⟩ _ (by kernel_rfl) .nil ?_
            refine Wc.seq ?_
            obtain ⟨e305_, h334, h331⟩ := obind h331
            obtain ⟨c306_, h335, h331⟩ := obind h331
            refine Wc.region [{}, {}, {}, { r := some (.v (.str e305_) []) }, {}, {}, { c := some (List.map GTerm.c ((a301_.set ((b300_).toNat) (GTerm.mk b299_ c304_.gName c304_.gNum c304_.gKids)).set ((b300_).toNat) (GTerm.mk c306_.gKind e305_ c306_.gNum c306_.gKids))) }] [] [0, 1, 5] [] [0] ⟨[(0, (.v (.slx), [(0, .al (.a 0 0) [])])), (1, (.v (.int .i64 (wr.i64 (b299_ + 1))), [])), (5, (.v (.int .i64 b300_), []))], [], [(0, [(0, .ex 1000000007 true (List.map GTerm.c ((a301_.set ((b300_).toNat) (GTerm.mk b299_ c304_.gName c304_.gNum c304_.gKids)).set ((b300_).toNat) (GTerm.mk c306_.gKind e305_ c306_.gNum c306_.gKids))))])]⟩ _ (by kernel_rfl) (.cons (claws_markText h334) (.cons (ix_obl (c := GTerm.c) GTerm.c_len h335) (.cons (mod_obl (off := 1) (new := [.str e305_]) (c := GTerm.c) (GTerm.c_eq c306_) (GTerm.c_eq (GTerm.mk c306_.gKind e305_ c306_.gNum c306_.gKids)) (at'_spec h335).2 rfl) (.cons (st_obl (sz := 4) (off := 1) (s := 1) (c := GTerm.c) (GTerm.c_eq c306_) (at'_spec h335).2 rfl (Nat.le_of_ble_eq_true rfl)) .nil)))) ?_
            refine Wc.seq ?_
            refine Wc.region [] [] [0, 1, 5] [] [0] ⟨[(0, (.v (.slx), [(0, .al (.a 0 0) [])])), (1, (.v (.int .i64 (wr.i64 ((wr.i64 (b299_ + 1)) + 1))), [])), (5, (.v (.int .i64 b300_), []))], [], [(0, [(0, .ex 1000000007 true (List.map GTerm.c ((a301_.set ((b300_).toNat) (GTerm.mk b299_ c304_.gName c304_.gNum c304_.gKids)).set ((b300_).toNat) (GTerm.mk c306_.gKind e305_ c306_.gNum c306_.gKids))))])]⟩ _ (by kernel_rfl) .nil ?_
            refine Wc.seq ?_
            obtain ⟨c307_, h336, h331⟩ := obind h331
            refine Wc.region [{}, {}, {}, {}, {}, { c := some (List.map GTerm.c (((a301_.set ((b300_).toNat) (GTerm.mk b299_ c304_.gName c304_.gNum c304_.gKids)).set ((b300_).toNat) (GTerm.mk c306_.gKind e305_ c306_.gNum c306_.gKids)).set ((b300_).toNat) (GTerm.mk c307_.gKind c307_.gName (wr.i64 ((wr.i64 (b299_ + 1)) + 1)) c307_.gKids))) }] [] [0, 1, 5] [] [0] ⟨[(0, (.v (.slx), [(0, .al (.a 0 0) [])])), (1, (.v (.int .i64 (wr.i64 ((wr.i64 (b299_ + 1)) + 1))), [])), (5, (.v (.int .i64 b300_), []))], [], [(0, [(0, .ex 1000000007 true (List.map GTerm.c (((a301_.set ((b300_).toNat) (GTerm.mk b299_ c304_.gName c304_.gNum c304_.gKids)).set ((b300_).toNat) (GTerm.mk c306_.gKind e305_ c306_.gNum c306_.gKids)).set ((b300_).toNat) (GTerm.mk c307_.gKind c307_.gName (wr.i64 ((wr.i64 (b299_ + 1)) + 1)) c307_.gKids))))])]⟩ _ (by kernel_rfl) (.cons (ix_obl (c := GTerm.c) GTerm.c_len h336) (.cons (mod_obl (off := 2) (new := [.int .i64 (wr.i64 ((wr.i64 (b299_ + 1)) + 1))]) (c := GTerm.c) (GTerm.c_eq c307_) (GTerm.c_eq (GTerm.mk c307_.gKind c307_.gName (wr.i64 ((wr.i64 (b299_ + 1)) + 1)) c307_.gKids)) (at'_spec h336).2 rfl) (.cons (st_obl (sz := 4) (off := 2) (s := 1) (c := GTerm.c) (GTerm.c_eq c307_) (at'_spec h336).2 rfl (Nat.le_of_ble_eq_true rfl)) .nil))) ?_
            refine Wc.seq ?_
            refine Wc.region [] [] [0, 1, 5] [] [0] ⟨[(0, (.v (.slx), [(0, .al (.a 0 0) [])])), (1, (.v (.int .i64 (wr.i64 ((wr.i64 ((wr.i64 (b299_ + 1)) + 1)) + 1))), [])), (5, (.v (.int .i64 b300_), []))], [], [(0, [(0, .ex 1000000007 true (List.map GTerm.c (((a301_.set ((b300_).toNat) (GTerm.mk b299_ c304_.gName c304_.gNum c304_.gKids)).set ((b300_).toNat) (GTerm.mk c306_.gKind e305_ c306_.gNum c306_.gKids)).set ((b300_).toNat) (GTerm.mk c307_.gKind c307_.gName (wr.i64 ((wr.i64 (b299_ + 1)) + 1)) c307_.gKids))))])]⟩ _ (by kernel_rfl) .nil ?_
            obtain ⟨c308_, h337, h331⟩ := obind h331
            obtain ⟨p309_, h338, h331⟩ := obind h331
            refine Wc.region [{}, {}, {}, {}, { v := some (.slx) }, {}, { c := some (List.map GTerm.c ((((a301_.set ((b300_).toNat) (GTerm.mk b299_ c304_.gName c304_.gNum c304_.gKids)).set ((b300_).toNat) (GTerm.mk c306_.gKind e305_ c306_.gNum c306_.gKids)).set ((b300_).toNat) (GTerm.mk c307_.gKind c307_.gName (wr.i64 ((wr.i64 (b299_ + 1)) + 1)) c307_.gKids)).set ((b300_).toNat) (GTerm.mk c308_.gKind c308_.gName c308_.gNum p309_.1))), io := [0], r := some (.v (.int .i64 p309_.2) []), outs := [(0, .v .undef [(0, .ex 1000000007 true (List.map GTerm.c p309_.1))])], ioc := [(0, .ex 1000000007 true (List.map GTerm.c c308_.gKids))] }] [] [0, 1, 5] [] [0] ⟨[(0, (.v (.slx), [(0, .al (.a 0 0) [])])), (1, (.v (.int .i64 p309_.2), [])), (5, (.v (.int .i64 b300_), []))], [], [(0, [(0, .ex 1000000007 true (List.map GTerm.c ((((a301_.set ((b300_).toNat) (GTerm.mk b299_ c304_.gName c304_.gNum c304_.gKids)).set ((b300_).toNat) (GTerm.mk c306_.gKind e305_ c306_.gNum c306_.gKids)).set ((b300_).toNat) (GTerm.mk c307_.gKind c307_.gName (wr.i64 ((wr.i64 (b299_ + 1)) + 1)) c307_.gKids)).set ((b300_).toNat) (GTerm.mk c308_.gKind c308_.gName c308_.gNum p309_.1))))])]⟩ _ (by kernel_rfl) (.cons (ix_obl (c := GTerm.c) GTerm.c_len h337) (.cons (el_oblD (sz := 4) (off := 3) (s := 1) (ag := false) (v := .slx) (c := GTerm.c) (GTerm.c_eq c308_) (at'_spec h337).2 rfl (Nat.le_of_ble_eq_true rfl) rfl) (.cons (own_obl (own := [(0, .al (.a 0 0) [(((b300_).toNat), 4, 3)])]) (p := .a 0 0) (m := (b300_).toNat) (sz := 4) (off := 3) (js := [0]) rfl) (.cons (seg_obl (sz := 4) (off := 3) (n := [.sl (List.map GTerm.c c308_.gKids)]) (c := GTerm.c) (GTerm.c_eq c308_) (at'_spec h337).2 rfl (Nat.le_of_ble_eq_true rfl) rfl) (.cons (mod_obl (off := 3) (new := [.sl (List.map GTerm.c p309_.1)]) (c := GTerm.c) (GTerm.c_eq c308_) (GTerm.c_eq (GTerm.mk c308_.gKind c308_.gName c308_.gNum p309_.1)) (at'_spec h337).2 rfl) (.cons (FnO.any (args := [.io (.slx) [(0, .ex 1000000007 true (List.map GTerm.c c308_.gKids))], .v (.int .i64 (wr.i64 ((wr.i64 ((wr.i64 (b299_ + 1)) + 1)) + 1))) []]) (ih_plaws_markTermS h338)) .nil)))))) ?_
            refine Wc.region [] [] [0, 1, 5] [] [0] ⟨[(0, (.v (.slx), [(0, .al (.a 0 0) [])])), (1, (.v (.int .i64 p309_.2), [])), (5, (.v (.int .i64 (wr.i64 (b300_ + 1))), []))], [], [(0, [(0, .ex 1000000007 true (List.map GTerm.c ((((a301_.set ((b300_).toNat) (GTerm.mk b299_ c304_.gName c304_.gNum c304_.gKids)).set ((b300_).toNat) (GTerm.mk c306_.gKind e305_ c306_.gNum c306_.gKids)).set ((b300_).toNat) (GTerm.mk c307_.gKind c307_.gName (wr.i64 ((wr.i64 (b299_ + 1)) + 1)) c307_.gKids)).set ((b300_).toNat) (GTerm.mk c308_.gKind c308_.gName c308_.gNum p309_.1))))])]⟩ _ (by kernel_rfl) .nil ?_
            exact ⟨_, Nat.lt_succ_self _, _, _, _, rfl, h331⟩
          · refine Wc.condF h332 (by kernel_rfl) ?_
            refine Wc.fix (st' := ⟨[(1, (.v (.int .i64 b299_), []))], [], [(0, [(0, .ex 1000000007 true (List.map GTerm.c a301_))])]⟩) [] [1] [] [0] (by kernel_rfl) ?_
            refine Wc.exit ?_
            obtain rfl := Option.some.inj h331
            exact ⟨_, _, rfl, rfl⟩
      · rintro st ⟨b302_, a303_, rfl, rfl⟩
        refine Wc.seq ?_
        refine Wc.region [] [] [4] [] [0] ⟨[(4, (.v (.int .i64 b302_), []))], [], [(0, [(0, .ex 1000000007 true (List.map GTerm.c a303_))])]⟩ _ (by kernel_rfl) .nil ?_
        refine Wc.ret ?_
        obtain rfl := Option.some.inj h
        exact ⟨.inl rfl, by kernel_rfl, by kernel_rfl⟩
theorem claws_markTermS {k : Nat} {a297_ : List GTerm} {b298_ : Int} {r : (List GTerm) × Int} (h : plaws_markTermS k a297_ b298_ = some r) : FnO Try.prog 76 [.io (.slx) [(0, .ex 1000000007 true (List.map GTerm.c a297_))], .v (.int .i64 b298_) []] (.v (.int .i64 r.2) []) [(0, .v .undef [(0, .ex 1000000007 true (List.map GTerm.c r.1))])] := (all_plaws_markTermS k) h

/-- laws.markTerm -/
def plaws_markTerm (k : Nat) (c310_ : GTerm) (b311_ : Int) : Option (GTerm × Int) :=
  (plaws_markTermS k c310_.gKids b311_).bind fun p312_ =>
  some (GTerm.mk c310_.gKind c310_.gName c310_.gNum p312_.1, p312_.2)
theorem claws_markTerm {k : Nat} {c310_ : GTerm} {b311_ : Int} {r : GTerm × Int} (h : plaws_markTerm k c310_ b311_ = some r) : FnO Try.prog 23 [.io (.agg [.int .i64 c310_.gKind, .str c310_.gName, .int .i64 c310_.gNum, .slx]) [(3, .ex 1000000007 true (List.map GTerm.c c310_.gKids))], .v (.int .i64 b311_) []] (.v (.int .i64 r.2) []) [(0, .v .undef [(3, .ex 1000000007 true (List.map GTerm.c r.1.gKids))])] := by
  refine FnO.of Try.func23 (rfl : Try.f23.body = some _) (Nat.le_of_ble_eq_true (by kernel_rfl)) (Nat.le_of_ble_eq_true (by kernel_rfl)) ?_
  intro w0 X0 Fin pv0 pb
  unfold plaws_markTerm at h
  refine Wc.seq ?_
  refine Wc.region [] [] [1, 2] [2] [0] ⟨[(1, (.v (.int .i64 b311_), [])), (2, (.ptr 2 0, []))], [(2, .cells [.int .i64 c310_.gKind, .str c310_.gName, .int .i64 c310_.gNum, .slx] [(3, .al (.a 0 3) [])])], [(0, [(3, .ex 1000000007 true (List.map GTerm.c c310_.gKids))])]⟩ _ (by kernel_rfl) .nil ?_
  refine Wc.seq ?_
  obtain ⟨p312_, h339, h⟩ := obind h
  refine Wc.region [{}, {}, {}, { io := [0], r := some (.v (.int .i64 p312_.2) []), outs := [(0, .v .undef [(0, .ex 1000000007 true (List.map GTerm.c p312_.1))])] }] [] [1] [] [0] ⟨[(1, (.v (.int .i64 p312_.2), []))], [], [(0, [(3, .ex 1000000007 true (List.map GTerm.c p312_.1))])]⟩ _ (by kernel_rfl) (.cons (FnO.any (args := [.io (.slx) [(0, .ex 1000000007 true (List.map GTerm.c c310_.gKids))], .v (.int .i64 b311_) []]) (claws_markTermS h339)) .nil) ?_
  refine Wc.seq ?_
  refine Wc.region [] [] [4] [] [0] ⟨[(4, (.v (.int .i64 p312_.2), []))], [], [(0, [(3, .ex 1000000007 true (List.map GTerm.c p312_.1))])]⟩ _ (by kernel_rfl) .nil ?_
  refine Wc.ret ?_
  obtain rfl := Option.some.inj h
  exact ⟨.inl rfl, by kernel_rfl, by kernel_rfl⟩

/-- laws.markClause -/
def plaws_markClause (k : Nat) (d313_ : GClause) (b314_ : Int) : Option (GClause × Int) :=
  (plaws_markTerm k d313_.gHead b314_).bind fun q315_ =>
  (plaws_markTerm k d313_.gBody q315_.2).bind fun q316_ =>
  some (GClause.mk (GTerm.mk d313_.gHead.gKind d313_.gHead.gName d313_.gHead.gNum q315_.1.gKids) (GTerm.mk d313_.gBody.gKind d313_.gBody.gName d313_.gBody.gNum q316_.1.gKids) d313_.gFile, q316_.2)
theorem claws_markClause {k : Nat} {d313_ : GClause} {b314_ : Int} {r : GClause × Int} (h : plaws_markClause k d313_ b314_ = some r) : FnO Try.prog 31 [.io (.agg [.int .i64 d313_.gHead.gKind, .str d313_.gHead.gName, .int .i64 d313_.gHead.gNum, .slx, .int .i64 d313_.gBody.gKind, .str d313_.gBody.gName, .int .i64 d313_.gBody.gNum, .slx, .str d313_.gFile]) [(3, .ex 1000000007 true (List.map GTerm.c d313_.gHead.gKids)), (7, .ex 1000000007 true (List.map GTerm.c d313_.gBody.gKids))], .v (.int .i64 b314_) []] (.v (.int .i64 r.2) []) [(0, .v .undef [(3, .ex 1000000007 true (List.map GTerm.c r.1.gHead.gKids)), (7, .ex 1000000007 true (List.map GTerm.c r.1.gBody.gKids))])] := by
  refine FnO.of Try.func31 (rfl : Try.f31.body = some _) (Nat.le_of_ble_eq_true (by kernel_rfl)) (Nat.le_of_ble_eq_true (by kernel_rfl)) ?_
  intro w0 X0 Fin pv0 pb
  unfold plaws_markClause at h
  refine Wc.seq ?_
  refine Wc.region [] [] [1, 2] [2] [0] ⟨[(1, (.v (.int .i64 b314_), [])), (2, (.ptr 2 0, []))], [(2, .cells [.int .i64 d313_.gHead.gKind, .str d313_.gHead.gName, .int .i64 d313_.gHead.gNum, .slx, .int .i64 d313_.gBody.gKind, .str d313_.gBody.gName, .int .i64 d313_.gBody.gNum, .slx, .str d313_.gFile] [(3, .al (.a 0 3) []), (7, .al (.a 0 7) [])])], [(0, [(3, .ex 1000000007 true (List.map GTerm.c d313_.gHead.gKids)), (7, .ex 1000000007 true (List.map GTerm.c d313_.gBody.gKids))])]⟩ _ (by kernel_rfl) .nil ?_
  refine Wc.seq ?_
  obtain ⟨q315_, h340, h⟩ := obind h
  refine Wc.region [{}, {}, {}, { io := [0], r := some (.v (.int .i64 q315_.2) []), outs := [(0, .v .undef [(3, .ex 1000000007 true (List.map GTerm.c q315_.1.gKids))])] }] [] [1, 2] [2] [0] ⟨[(1, (.v (.int .i64 q315_.2), [])), (2, (.ptr 2 0, []))], [(2, .cells [.int .i64 d313_.gHead.gKind, .str d313_.gHead.gName, .int .i64 d313_.gHead.gNum, .slx, .int .i64 d313_.gBody.gKind, .str d313_.gBody.gName, .int .i64 d313_.gBody.gNum, .slx, .str d313_.gFile] [(3, .al (.a 0 3) []), (7, .al (.a 0 7) [])])], [(0, [(3, .ex 1000000007 true (List.map GTerm.c q315_.1.gKids)), (7, .ex 1000000007 true (List.map GTerm.c d313_.gBody.gKids))])]⟩ _ (by kernel_rfl) (.cons (FnO.any (args := [.io (.agg [.int .i64 d313_.gHead.gKind, .str d313_.gHead.gName, .int .i64 d313_.gHead.gNum, .slx]) [(3, .ex 1000000007 true (List.map GTerm.c d313_.gHead.gKids))], .v (.int .i64 b314_) []]) (claws_markTerm h340)) .nil) ?_
  refine Wc.seq ?_
  obtain ⟨q316_, h341, h⟩ := obind h
  refine Wc.region [{}, {}, {}, { io := [0], r := some (.v (.int .i64 q316_.2) []), outs := [(0, .v .undef [(3, .ex 1000000007 true (List.map GTerm.c q316_.1.gKids))])] }] [] [1] [] [0] ⟨[(1, (.v (.int .i64 q316_.2), []))], [], [(0, [(3, .ex 1000000007 true (List.map GTerm.c q315_.1.gKids)), (7, .ex 1000000007 true (List.map GTerm.c q316_.1.gKids))])]⟩ _ (by kernel_rfl) (.cons (FnO.any (args := [.io (.agg [.int .i64 d313_.gBody.gKind, .str d313_.gBody.gName, .int .i64 d313_.gBody.gNum, .slx]) [(3, .ex 1000000007 true (List.map GTerm.c d313_.gBody.gKids))], .v (.int .i64 q315_.2) []]) (claws_markTerm h341)) .nil) ?_
  refine Wc.seq ?_
  refine Wc.region [] [] [4] [] [0] ⟨[(4, (.v (.int .i64 q316_.2), []))], [], [(0, [(3, .ex 1000000007 true (List.map GTerm.c q315_.1.gKids)), (7, .ex 1000000007 true (List.map GTerm.c q316_.1.gKids))])]⟩ _ (by kernel_rfl) .nil ?_
  refine Wc.ret ?_
  obtain rfl := Option.some.inj h
  exact ⟨.inl rfl, by kernel_rfl, by kernel_rfl⟩

def plaws_markInsS_L1 (k : Nat) : Nat → Int → Int → (List GIns) → Option (Out ((List GIns) × Int) (Int × (List GIns)))
  | 0, _, _, _ => none
  | m + 1, b319_, b320_, i321_ =>
    if (decide (b320_ < (i321_.length : Int))) = true then
      (at' i321_ b320_).bind fun n324_ =>
      (plaws_markText k (wr.i64 (b319_ + 1))).bind fun e325_ =>
      (at' (i321_.set ((b320_).toNat) (GIns.mk b319_ n324_.gName n324_.gNum n324_.gMany)) b320_).bind fun n326_ =>
      (at' ((i321_.set ((b320_).toNat) (GIns.mk b319_ n324_.gName n324_.gNum n324_.gMany)).set ((b320_).toNat) (GIns.mk n326_.gOp e325_ n326_.gNum n326_.gMany)) b320_).bind fun n327_ =>
      (at' (((i321_.set ((b320_).toNat) (GIns.mk b319_ n324_.gName n324_.gNum n324_.gMany)).set ((b320_).toNat) (GIns.mk n326_.gOp e325_ n326_.gNum n326_.gMany)).set ((b320_).toNat) (GIns.mk n327_.gOp n327_.gName (wr.i64 ((wr.i64 (b319_ + 1)) + 1)) n327_.gMany)) b320_).bind fun n328_ =>
      plaws_markInsS_L1 k m (wr.i64 ((wr.i64 ((wr.i64 ((wr.i64 (b319_ + 1)) + 1)) + 1)) + 1)) (wr.i64 (b320_ + 1)) ((((i321_.set ((b320_).toNat) (GIns.mk b319_ n324_.gName n324_.gNum n324_.gMany)).set ((b320_).toNat) (GIns.mk n326_.gOp e325_ n326_.gNum n326_.gMany)).set ((b320_).toNat) (GIns.mk n327_.gOp n327_.gName (wr.i64 ((wr.i64 (b319_ + 1)) + 1)) n327_.gMany)).set ((b320_).toNat) (GIns.mk n328_.gOp n328_.gName n328_.gNum (wr.i64 ((wr.i64 ((wr.i64 (b319_ + 1)) + 1)) + 1))))
    else
      some (.done (b319_, i321_))
/-- laws.markInsS -/
def plaws_markInsS (k : Nat) (i317_ : List GIns) (b318_ : Int) : Option ((List GIns) × Int) :=
  (plaws_markInsS_L1 k k b318_ 0 i317_).bind fun out1 => match out1 with
  | .ret r => some r
  | .done (b322_, i323_) =>
    some (i323_, b322_)
theorem claws_markInsS {k : Nat} {i317_ : List GIns} {b318_ : Int} {r : (List GIns) × Int} (h : plaws_markInsS k i317_ b318_ = some r) : FnO Try.prog 85 [.io (.slx) [(0, .ex 1000000007 true (List.map GIns.c i317_))], .v (.int .i64 b318_) []] (.v (.int .i64 r.2) []) [(0, .v .undef [(0, .ex 1000000007 true (List.map GIns.c r.1))])] := by
  refine FnO.of Try.func85 (rfl : Try.f85.body = some _) (Nat.le_of_ble_eq_true (by kernel_rfl)) (Nat.le_of_ble_eq_true (by kernel_rfl)) ?_
  intro w0 X0 Fin pv0 pb
  unfold plaws_markInsS at h
  refine Wc.seq ?_
  refine Wc.region [] [] [0, 1] [] [0] ⟨[(0, (.v (.slx), [(0, .al (.a 0 0) [])])), (1, (.v (.int .i64 b318_), []))], [], [(0, [(0, .ex 1000000007 true (List.map GIns.c i317_))])]⟩ _ (by kernel_rfl) .nil ?_
  refine Wc.seq ?_
  refine Wc.seq ?_
  refine Wc.region [] [] [0, 1, 5] [] [0] ⟨[(0, (.v (.slx), [(0, .al (.a 0 0) [])])), (1, (.v (.int .i64 b318_), [])), (5, (.v (.int .i64 0), []))], [], [(0, [(0, .ex 1000000007 true (List.map GIns.c i317_))])]⟩ _ (by kernel_rfl) .nil ?_
  obtain ⟨out1, h342, h⟩ := obind h
  refine Wc.lastJ (fun st => ∃ (b322_ : Int) (i323_ : List GIns), out1 = .done (b322_, i323_) ∧ st = ⟨[(1, (.v (.int .i64 b322_), []))], [], [(0, [(0, .ex 1000000007 true (List.map GIns.c i323_))])]⟩) ?_ ?_
  · refine Wc.block ?_
    refine Wc.loop (fun m st => ∃ (b319_ : Int) (b320_ : Int) (i321_ : List GIns), st = ⟨[(0, (.v (.slx), [(0, .al (.a 0 0) [])])), (1, (.v (.int .i64 b319_), [])), (5, (.v (.int .i64 b320_), []))], [], [(0, [(0, .ex 1000000007 true (List.map GIns.c i321_))])]⟩ ∧ plaws_markInsS_L1 k m b319_ b320_ i321_ = some out1) ?_ k ⟨_, _, _, rfl, h342⟩
    rintro m st ⟨b319_, b320_, i321_, rfl, h342⟩
    cases m with
    | zero => exact (onone h342).elim
    | succ m =>
      refine Wc.seq ?_
      refine Wc.seq ?_
      refine Wc.region [{}, {}, { v := some (.int .i64 (i321_.length : Int)) }] [] [0, 1, 5, 9] [] [0] ⟨[(0, (.v (.slx), [(0, .al (.a 0 0) [])])), (1, (.v (.int .i64 b319_), [])), (5, (.v (.int .i64 b320_), [])), (9, (.v (.bool (decide (b320_ < (i321_.length : Int)))), []))], [], [(0, [(0, .ex 1000000007 true (List.map GIns.c i321_))])]⟩ _ (by kernel_rfl) (.cons (len_obl GIns.c i321_) .nil) ?_
      rcases oif h342 with ⟨h343, h342⟩ | ⟨h343, h342⟩
      · refine Wc.condT h343 (by kernel_rfl) ?_
        refine Wc.fix (st' := ⟨[(0, (.v (.slx), [(0, .al (.a 0 0) [])])), (1, (.v (.int .i64 b319_), [])), (5, (.v (.int .i64 b320_), []))], [], [(0, [(0, .ex 1000000007 true (List.map GIns.c i321_))])]⟩) [] [0, 1, 5] [] [0] (by kernel_rfl) ?_
        refine Wc.skip ?_
        refine Wc.seq ?_
        refine Wc.block ?_
        refine Wc.seq ?_
        obtain ⟨n324_, h344, h342⟩ := obind h342
        refine Wc.region [{}, {}, {}, {}, {}, { c := some (List.map GIns.c (i321_.set ((b320_).toNat) (GIns.mk b319_ n324_.gName n324_.gNum n324_.gMany))) }] [] [0, 1, 5] [] [0] ⟨[(0, (.v (.slx), [(0, .al (.a 0 0) [])])), (1, (.v (.int .i64 b319_), [])), (5, (.v (.int .i64 b320_), []))], [], [(0, [(0, .ex 1000000007 true (List.map GIns.c (i321_.set ((b320_).toNat) (GIns.mk b319_ n324_.gName n324_.gNum n324_.gMany))))])]⟩ _ (by kernel_rfl) (.cons (ix_obl (c := GIns.c) GIns.c_len h344) (.cons (mod_obl (off := 0) (new := [.int .i64 b319_]) (c := GIns.c) (GIns.c_eq n324_) (GIns.c_eq (GIns.mk b319_ n324_.gName n324_.gNum n324_.gMany)) (at'_spec h344).2 rfl) (.cons (st_obl (sz := 4) (off := 0) (s := 1) (c := GIns.c) (GIns.c_eq n324_) (at'_spec h344).2 rfl (Nat.le_of_ble_eq_true rfl)) .nil))) ?_
        refine Wc.seq ?_
        refine Wc.region [] [] [0, 1, 5] [] [0] ⟨[(0, (.v (.slx), [(0, .al (.a 0 0) [])])), (1, (.v (.int .i64 (wr.i64 (b319_ + 1))), [])), (5, (.v (.int .i64 b320_), []))], [], [(0, [(0, .ex 1000000007 true (List.map GIns.c (i321_.set ((b320_).toNat) (GIns.mk b319_ n324_.gName n324_.gNum n324_.gMany))))])]⟩ _ (by kernel_rfl) .nil ?_
        refine Wc.seq ?_
        obtain ⟨e325_, h345, h342⟩ := obind h342
        obtain ⟨n326_, h346, h342⟩ := obind h342
        refine Wc.region [{}, {}, {}, { r := some (.v (.str e325_) []) }, {}, {}, { c := some (List.map GIns.c ((i321_.set ((b320_).toNat) (GIns.mk b319_ n324_.gName n324_.gNum n324_.gMany)).set ((b320_).toNat) (GIns.mk n326_.gOp e325_ n326_.gNum n326_.gMany))) }] [] [0, 1, 5] [] [0] ⟨[(0, (.v (.slx), [(0, .al (.a 0 0) [])])), (1, (.v (.int .i64 (wr.i64 (b319_ + 1))), [])), (5, (.v (.int .i64 b320_), []))], [], [(0, [(0, .ex 1000000007 true (List.map GIns.c ((i321_.set ((b320_).toNat) (GIns.mk b319_ n324_.gName n324_.gNum n324_.gMany)).set ((b320_).toNat) (GIns.mk n326_.gOp e325_ n326_.gNum n326_.gMany))))])]⟩ _ (by kernel_rfl) (.cons (claws_markText h345) (.cons (ix_obl (c := GIns.c) GIns.c_len h346) (.cons (mod_obl (off := 1) (new := [.str e325_]) (c := GIns.c) (GIns.c_eq n326_) (GIns.c_eq (GIns.mk n326_.gOp e325_ n326_.gNum n326_.gMany)) (at'_spec h346).2 rfl) (.cons (st_obl (sz := 4) (off := 1) (s := 1) (c := GIns.c) (GIns.c_eq n326_) (at'_spec h346).2 rfl (Nat.le_of_ble_eq_true rfl)) .nil)))) ?_
        refine Wc.seq ?_
        refine Wc.region [] [] [0, 1, 5] [] [0] ⟨[(0, (.v (.slx), [(0, .al (.a 0 0) [])])), (1, (.v (.int .i64 (wr.i64 ((wr.i64 (b319_ + 1)) + 1))), [])), (5, (.v (.int .i64 b320_), []))], [], [(0, [(0, .ex 1000000007 true (List.map GIns.c ((i321_.set ((b320_).toNat) (GIns.mk b319_ n324_.gName n324_.gNum n324_.gMany)).set ((b320_).toNat) (GIns.mk n326_.gOp e325_ n326_.gNum n326_.gMany))))])]⟩ _ (by kernel_rfl) .nil ?_
        refine Wc.seq ?_
        obtain ⟨n327_, h347, h342⟩ := obind h342
        refine Wc.region [{}, {}, {}, {}, {}, { c := some (List.map GIns.c (((i321_.set ((b320_).toNat) (GIns.mk b319_ n324_.gName n324_.gNum n324_.gMany)).set ((b320_).toNat) (GIns.mk n326_.gOp e325_ n326_.gNum n326_.gMany)).set ((b320_).toNat) (GIns.mk n327_.gOp n327_.gName (wr.i64 ((wr.i64 (b319_ + 1)) + 1)) n327_.gMany))) }] [] [0, 1, 5] [] [0] ⟨[(0, (.v (.slx), [(0, .al (.a 0 0) [])])), (1, (.v (.int .i64 (wr.i64 ((wr.i64 (b319_ + 1)) + 1))), [])), (5, (.v (.int .i64 b320_), []))], [], [(0, [(0, .ex 1000000007 true (List.map GIns.c (((i321_.set ((b320_).toNat) (GIns.mk b319_ n324_.gName n324_.gNum n324_.gMany)).set ((b320_).toNat) (GIns.mk n326_.gOp e325_ n326_.gNum n326_.gMany)).set ((b320_).toNat) (GIns.mk n327_.gOp n327_.gName (wr.i64 ((wr.i64 (b319_ + 1)) + 1)) n327_.gMany))))])]⟩ _ (by kernel_rfl) (.cons (ix_obl (c := GIns.c) GIns.c_len h347) (.cons (mod_obl (off := 2) (new := [.int .i64 (wr.i64 ((wr.i64 (b319_ + 1)) + 1))]) (c := GIns.c) (GIns.c_eq n327_) (GIns.c_eq (GIns.mk n327_.gOp n327_.gName (wr.i64 ((wr.i64 (b319_ + 1)) + 1)) n327_.gMany)) (at'_spec h347).2 rfl) (.cons (st_obl (sz := 4) (off := 2) (s := 1) (c := GIns.c) (GIns.c_eq n327_) (at'_spec h347).2 rfl (Nat.le_of_ble_eq_true rfl)) .nil))) ?_
        refine Wc.seq ?_
        refine Wc.region [] [] [0, 1, 5] [] [0] ⟨[(0, (.v (.slx), [(0, .al (.a 0 0) [])])), (1, (.v (.int .i64 (wr.i64 ((wr.i64 ((wr.i64 (b319_ + 1)) + 1)) + 1))), [])), (5, (.v (.int .i64 b320_), []))], [], [(0, [(0, .ex 1000000007 true (List.map GIns.c (((i321_.set ((b320_).toNat) (GIns.mk b319_ n324_.gName n324_.gNum n324_.gMany)).set ((b320_).toNat) (GIns.mk n326_.gOp e325_ n326_.gNum n326_.gMany)).set ((b320_).toNat) (GIns.mk n327_.gOp n327_.gName (wr.i64 ((wr.i64 (b319_ + 1)) + 1)) n327_.gMany))))])]⟩ _ (by kernel_rfl) .nil ?_
        refine Wc.seq ?_
        obtain ⟨n328_, h348, h342⟩ := obind h342
        refine Wc.region [{}, {}, {}, {}, {}, { c := some (List.map GIns.c ((((i321_.set ((b320_).toNat) (GIns.mk b319_ n324_.gName n324_.gNum n324_.gMany)).set ((b320_).toNat) (GIns.mk n326_.gOp e325_ n326_.gNum n326_.gMany)).set ((b320_).toNat) (GIns.mk n327_.gOp n327_.gName (wr.i64 ((wr.i64 (b319_ + 1)) + 1)) n327_.gMany)).set ((b320_).toNat) (GIns.mk n328_.gOp n328_.gName n328_.gNum (wr.i64 ((wr.i64 ((wr.i64 (b319_ + 1)) + 1)) + 1))))) }] [] [0, 1, 5] [] [0] ⟨[(0, (.v (.slx), [(0, .al (.a 0 0) [])])), (1, (.v (.int .i64 (wr.i64 ((wr.i64 ((wr.i64 (b319_ + 1)) + 1)) + 1))), [])), (5, (.v (.int .i64 b320_), []))], [], [(0, [(0, .ex 1000000007 true (List.map GIns.c ((((i321_.set ((b320_).toNat) (GIns.mk b319_ n324_.gName n324_.gNum n324_.gMany)).set ((b320_).toNat) (GIns.mk n326_.gOp e325_ n326_.gNum n326_.gMany)).set ((b320_).toNat) (GIns.mk n327_.gOp n327_.gName (wr.i64 ((wr.i64 (b319_ + 1)) + 1)) n327_.gMany)).set ((b320_).toNat) (GIns.mk n328_.gOp n328_.gName n328_.gNum (wr.i64 ((wr.i64 ((wr.i64 (b319_ + 1)) + 1)) + 1))))))])]⟩ _ (by kernel_rfl) (.cons (ix_obl (c := GIns.c) GIns.c_len h348) (.cons (mod_obl (off := 3) (new := [.int .i64 (wr.i64 ((wr.i64 ((wr.i64 (b319_ + 1)) + 1)) + 1))]) (c := GIns.c) (GIns.c_eq n328_) (GIns.c_eq (GIns.mk n328_.gOp n328_.gName n328_.gNum (wr.i64 ((wr.i64 ((wr.i64 (b319_ + 1)) + 1)) + 1)))) (at'_spec h348).2 rfl) (.cons (st_obl (sz := 4) (off := 3) (s := 1) (c := GIns.c) (GIns.c_eq n328_) (at'_spec h348).2 rfl (Nat.le_of_ble_eq_true rfl)) .nil))) ?_
        refine Wc.region [] [] [0, 1, 5] [] [0] ⟨[(0, (.v (.slx), [(0, .al (.a 0 0) [])])), (1, (.v (.int .i64 (wr.i64 ((wr.i64 ((wr.i64 ((wr.i64 (b319_ + 1)) + 1)) + 1)) + 1))), [])), (5, (.v (.int .i64 b320_), []))], [], [(0, [(0, .ex 1000000007 true (List.map GIns.c ((((i321_.set ((b320_).toNat) (GIns.mk b319_ n324_.gName n324_.gNum n324_.gMany)).set ((b320_).toNat) (GIns.mk n326_.gOp e325_ n326_.gNum n326_.gMany)).set ((b320_).toNat) (GIns.mk n327_.gOp n327_.gName (wr.i64 ((wr.i64 (b319_ + 1)) + 1)) n327_.gMany)).set ((b320_).toNat) (GIns.mk n328_.gOp n328_.gName n328_.gNum (wr.i64 ((wr.i64 ((wr.i64 (b319_ + 1)) + 1)) + 1))))))])]⟩ _ (by kernel_rfl) .nil ?_
        refine Wc.region [] [] [0, 1, 5] [] [0] ⟨[(0, (.v (.slx), [(0, .al (.a 0 0) [])])), (1, (.v (.int .i64 (wr.i64 ((wr.i64 ((wr.i64 ((wr.i64 (b319_ + 1)) + 1)) + 1)) + 1))), [])), (5, (.v (.int .i64 (wr.i64 (b320_ + 1))), []))], [], [(0, [(0, .ex 1000000007 true (List.map GIns.c ((((i321_.set ((b320_).toNat) (GIns.mk b319_ n324_.gName n324_.gNum n324_.gMany)).set ((b320_).toNat) (GIns.mk n326_.gOp e325_ n326_.gNum n326_.gMany)).set ((b320_).toNat) (GIns.mk n327_.gOp n327_.gName (wr.i64 ((wr.i64 (b319_ + 1)) + 1)) n327_.gMany)).set ((b320_).toNat) (GIns.mk n328_.gOp n328_.gName n328_.gNum (wr.i64 ((wr.i64 ((wr.i64 (b319_ + 1)) + 1)) + 1))))))])]⟩ _ (by kernel_rfl) .nil ?_
        exact ⟨_, Nat.lt_succ_self _, _, _, _, rfl, h342⟩
      · refine Wc.condF h343 (by kernel_rfl) ?_
        refine Wc.fix (st' := ⟨[(1, (.v (.int .i64 b319_), []))], [], [(0, [(0, .ex 1000000007 true (List.map GIns.c i321_))])]⟩) [] [1] [] [0] (by kernel_rfl) ?_
        refine Wc.exit ?_
        obtain rfl := Option.some.inj h342
        exact ⟨_, _, rfl, rfl⟩
  · rintro st ⟨b322_, i323_, rfl, rfl⟩
    refine Wc.seq ?_
    refine Wc.region [] [] [4] [] [0] ⟨[(4, (.v (.int .i64 b322_), []))], [], [(0, [(0, .ex 1000000007 true (List.map GIns.c i323_))])]⟩ _ (by kernel_rfl) .nil ?_
    refine Wc.ret ?_
    obtain rfl := Option.some.inj h
    exact ⟨.inl rfl, by kernel_rfl, by kernel_rfl⟩

/-- laws.markCode -/
def plaws_markCode (k : Nat) (o329_ : GCode) (b330_ : Int) : Option (GCode × Int) :=
  (plaws_markInsS k o329_.gHead b330_).bind fun r331_ =>
  (plaws_markInsS k o329_.gBody r331_.2).bind fun r332_ =>
  some (GCode.mk r331_.1 r332_.1 o329_.gVars, r332_.2)
theorem claws_markCode {k : Nat} {o329_ : GCode} {b330_ : Int} {r : GCode × Int} (h : plaws_markCode k o329_ b330_ = some r) : FnO Try.prog 32 [.io (.agg [.slx, .slx, .int .i64 o329_.gVars]) [(0, .ex 1000000007 true (List.map GIns.c o329_.gHead)), (1, .ex 1000000007 true (List.map GIns.c o329_.gBody))], .v (.int .i64 b330_) []] (.v (.int .i64 r.2) []) [(0, .v .undef [(0, .ex 1000000007 true (List.map GIns.c r.1.gHead)), (1, .ex 1000000007 true (List.map GIns.c r.1.gBody))])] := by
  refine FnO.of Try.func32 (rfl : Try.f32.body = some _) (Nat.le_of_ble_eq_true (by kernel_rfl)) (Nat.le_of_ble_eq_true (by kernel_rfl)) ?_
  intro w0 X0 Fin pv0 pb
  unfold plaws_markCode at h
  refine Wc.seq ?_
  refine Wc.region [] [] [1, 2] [2] [0] ⟨[(1, (.v (.int .i64 b330_), [])), (2, (.ptr 2 0, []))], [(2, .cells [.slx, .slx, .int .i64 o329_.gVars] [(0, .al (.a 0 0) []), (1, .al (.a 0 1) [])])], [(0, [(0, .ex 1000000007 true (List.map GIns.c o329_.gHead)), (1, .ex 1000000007 true (List.map GIns.c o329_.gBody))])]⟩ _ (by kernel_rfl) .nil ?_
  refine Wc.seq ?_
  obtain ⟨r331_, h349, h⟩ := obind h
  refine Wc.region [{}, {}, {}, { io := [0], r := some (.v (.int .i64 r331_.2) []), outs := [(0, .v .undef [(0, .ex 1000000007 true (List.map GIns.c r331_.1))])] }] [] [1, 2] [2] [0] ⟨[(1, (.v (.int .i64 r331_.2), [])), (2, (.ptr 2 0, []))], [(2, .cells [.slx, .slx, .int .i64 o329_.gVars] [(0, .al (.a 0 0) []), (1, .al (.a 0 1) [])])], [(0, [(0, .ex 1000000007 true (List.map GIns.c r331_.1)), (1, .ex 1000000007 true (List.map GIns.c o329_.gBody))])]⟩ _ (by kernel_rfl) (.cons (FnO.any (args := [.io (.slx) [(0, .ex 1000000007 true (List.map GIns.c o329_.gHead))], .v (.int .i64 b330_) []]) (claws_markInsS h349)) .nil) ?_
  refine Wc.seq ?_
  obtain ⟨r332_, h350, h⟩ := obind h
  refine Wc.region [{}, {}, {}, { io := [0], r := some (.v (.int .i64 r332_.2) []), outs := [(0, .v .undef [(0, .ex 1000000007 true (List.map GIns.c r332_.1))])] }] [] [1] [] [0] ⟨[(1, (.v (.int .i64 r332_.2), []))], [], [(0, [(0, .ex 1000000007 true (List.map GIns.c r331_.1)), (1, .ex 1000000007 true (List.map GIns.c r332_.1))])]⟩ _ (by kernel_rfl) (.cons (FnO.any (args := [.io (.slx) [(0, .ex 1000000007 true (List.map GIns.c o329_.gBody))], .v (.int .i64 r331_.2) []]) (claws_markInsS h350)) .nil) ?_
  refine Wc.seq ?_
  refine Wc.region [] [] [4] [] [0] ⟨[(4, (.v (.int .i64 r332_.2), []))], [], [(0, [(0, .ex 1000000007 true (List.map GIns.c r331_.1)), (1, .ex 1000000007 true (List.map GIns.c r332_.1))])]⟩ _ (by kernel_rfl) .nil ?_
  refine Wc.ret ?_
  obtain rfl := Option.some.inj h
  exact ⟨.inl rfl, by kernel_rfl, by kernel_rfl⟩

def plaws_heldInsS_L1 (k : Nat) (i333_ : List GIns) : Nat → Int → Int → Option (Out Int Int)
  | 0, _, _ => none
  | m + 1, b335_, b336_ =>
    if (decide (b336_ < (i333_.length : Int))) = true then
      (at' i333_ b336_).bind fun n338_ =>
      if (n338_.gOp != b335_) = true then
        some (.ret (-1))
      else
        (at' i333_ b336_).bind fun n339_ =>
        (plaws_markText k (wr.i64 (b335_ + 1))).bind fun e340_ =>
        if (!(sEq n339_.gName e340_)) = true then
          some (.ret (-1))
        else
          (at' i333_ b336_).bind fun n341_ =>
          if (n341_.gNum != (wr.i64 ((wr.i64 (b335_ + 1)) + 1))) = true then
            some (.ret (-1))
          else
            (at' i333_ b336_).bind fun n342_ =>
            if (n342_.gMany != (wr.i64 ((wr.i64 ((wr.i64 (b335_ + 1)) + 1)) + 1))) = true then
              some (.ret (-1))
            else
              plaws_heldInsS_L1 k i333_ m (wr.i64 ((wr.i64 ((wr.i64 ((wr.i64 (b335_ + 1)) + 1)) + 1)) + 1)) (wr.i64 (b336_ + 1))
    else
      some (.done b335_)
/-- laws.heldInsS -/
def plaws_heldInsS (k : Nat) (i333_ : List GIns) (b334_ : Int) : Option Int :=
  (plaws_heldInsS_L1 k i333_ k b334_ 0).bind fun out1 => match out1 with
  | .ret r => some r
  | .done b337_ =>
    some b337_
theorem claws_heldInsS {k : Nat} {i333_ : List GIns} {b334_ : Int} {r : Int} (h : plaws_heldInsS k i333_ b334_ = some r) : FnO Try.prog 86 [.v (.sl (List.map GIns.c i333_)) [], .v (.int .i64 b334_) []] (.v (.int .i64 r) []) [] := by
  refine FnO.of Try.func86 (rfl : Try.f86.body = some _) (Nat.le_of_ble_eq_true (by kernel_rfl)) (Nat.le_of_ble_eq_true (by kernel_rfl)) ?_
  intro w0 X0 Fin pv0 pb
  unfold plaws_heldInsS at h
  refine Wc.seq ?_
  refine Wc.region [] [] [0, 1] [] [] ⟨[(0, (.v (.sl (List.map GIns.c i333_)), [])), (1, (.v (.int .i64 b334_), []))], [], []⟩ _ (by kernel_rfl) .nil ?_
  refine Wc.seq ?_
  refine Wc.seq ?_
  refine Wc.region [] [] [0, 1, 5] [] [] ⟨[(0, (.v (.sl (List.map GIns.c i333_)), [])), (1, (.v (.int .i64 b334_), [])), (5, (.v (.int .i64 0), []))], [], []⟩ _ (by kernel_rfl) .nil ?_
  obtain ⟨out1, h351, h⟩ := obind h
  refine Wc.lastJ (fun st => ∃ (b337_ : Int), out1 = .done b337_ ∧ st = ⟨[(1, (.v (.int .i64 b337_), []))], [], []⟩) ?_ ?_
  · refine Wc.block ?_
    refine Wc.loop (fun m st => ∃ (b335_ : Int) (b336_ : Int), st = ⟨[(0, (.v (.sl (List.map GIns.c i333_)), [])), (1, (.v (.int .i64 b335_), [])), (5, (.v (.int .i64 b336_), []))], [], []⟩ ∧ plaws_heldInsS_L1 k i333_ m b335_ b336_ = some out1) ?_ k ⟨_, _, rfl, h351⟩
    rintro m st ⟨b335_, b336_, rfl, h351⟩
    cases m with
    | zero => exact (onone h351).elim
    | succ m =>
      refine Wc.seq ?_
      refine Wc.seq ?_
      refine Wc.region [{}, {}, { v := some (.int .i64 (i333_.length : Int)) }] [] [0, 1, 5, 9] [] [] ⟨[(0, (.v (.sl (List.map GIns.c i333_)), [])), (1, (.v (.int .i64 b335_), [])), (5, (.v (.int .i64 b336_), [])), (9, (.v (.bool (decide (b336_ < (i333_.length : Int)))), []))], [], []⟩ _ (by kernel_rfl) (.cons (len_obl GIns.c i333_) .nil) ?_
      rcases oif h351 with ⟨h352, h351⟩ | ⟨h352, h351⟩
      · refine Wc.condT h352 (by kernel_rfl) ?_
        refine Wc.fix (st' := ⟨[(0, (.v (.sl (List.map GIns.c i333_)), [])), (1, (.v (.int .i64 b335_), [])), (5, (.v (.int .i64 b336_), []))], [], []⟩) [] [0, 1, 5] [] [] (by kernel_rfl) ?_
        refine Wc.skip ?_
        refine Wc.seq ?_
        refine Wc.block ?_
        refine Wc.seq ?_
        refine Wc.seq ?_
        obtain ⟨n338_, h353, h351⟩ := obind h351
        refine Wc.region [{}, {}, { v := some (.vptr [.int .i64 n338_.gOp, .str n338_.gName, .int .i64 n338_.gNum, .int .i64 n338_.gMany]) }] [] [0, 1, 5, 18] [] [] ⟨[(0, (.v (.sl (List.map GIns.c i333_)), [])), (1, (.v (.int .i64 b335_), [])), (5, (.v (.int .i64 b336_), [])), (18, (.v (.bool (n338_.gOp != b335_)), []))], [], []⟩ _ (by kernel_rfl) (.cons (at_obl (c := GIns.c) (GIns.c_eq n338_) GIns.c_len h353) (.cons (len_ok 1 [.int .i64 n338_.gOp, .str n338_.gName, .int .i64 n338_.gNum, .int .i64 n338_.gMany]) .nil)) ?_
        rcases oif h351 with ⟨h354, h351⟩ | ⟨h354, h351⟩
        · refine Wc.condT h354 (by kernel_rfl) ?_
          refine Wc.seq ?_
          refine Wc.region [] [] [4] [] [] ⟨[(4, (.v (.int .i64 (-1)), []))], [], []⟩ _ (by kernel_rfl) .nil ?_
          refine Wc.ret ?_
          obtain rfl := Option.some.inj h351
          obtain rfl := Option.some.inj h
          exact ⟨.inl rfl, by kernel_rfl, by kernel_rfl⟩
        · refine Wc.condF h354 (by kernel_rfl) ?_
          refine Wc.fix (st' := ⟨[(0, (.v (.sl (List.map GIns.c i333_)), [])), (1, (.v (.int .i64 b335_), [])), (5, (.v (.int .i64 b336_), []))], [], []⟩) [] [0, 1, 5] [] [] (by kernel_rfl) ?_
          refine Wc.skip ?_
          refine Wc.seq ?_
          refine Wc.region [] [] [0, 1, 5] [] [] ⟨[(0, (.v (.sl (List.map GIns.c i333_)), [])), (1, (.v (.int .i64 (wr.i64 (b335_ + 1))), [])), (5, (.v (.int .i64 b336_), []))], [], []⟩ _ (by kernel_rfl) .nil ?_
          refine Wc.seq ?_
          refine Wc.seq ?_
          obtain ⟨n339_, h355, h351⟩ := obind h351
          obtain ⟨e340_, h356, h351⟩ := obind h351
          refine Wc.draw hmix [{}, {}, { v := some (.vptr [.int .i64 n339_.gOp, .str n339_.gName, .int .i64 n339_.gNum, .int .i64 n339_.gMany]) }, {}, {}, {}, { r := some (.v (.str e340_) []) }] [] [0, 1, 5, 28] [] [] ⟨[(0, (.v (.sl (List.map GIns.c i333_)), [])), (1, (.v (.int .i64 (wr.i64 (b335_ + 1))), [])), (5, (.v (.int .i64 b336_), [])), (28, (.v (.bool (!(sEq n339_.gName e340_))), []))], [], []⟩ _ (by kernel_rfl) (fun X => by kernel_rfl) (.cons (at_obl (c := GIns.c) (GIns.c_eq n339_) GIns.c_len h355) (.cons (len_ok 1 [.str n339_.gName, .int .i64 n339_.gNum, .int .i64 n339_.gMany]) (.cons (claws_markText h356) .nil))) ?_
          rcases oif h351 with ⟨h357, h351⟩ | ⟨h357, h351⟩
          · refine Wc.condT h357 (by kernel_rfl) ?_
            refine Wc.seq ?_
            refine Wc.region [] [] [4] [] [] ⟨[(4, (.v (.int .i64 (-1)), []))], [], []⟩ _ (by kernel_rfl) .nil ?_
            refine Wc.ret ?_
            obtain rfl := Option.some.inj h351
            obtain rfl := Option.some.inj h
            exact ⟨.inl rfl, by kernel_rfl, by kernel_rfl⟩
          · refine Wc.condF h357 (by kernel_rfl) ?_
            refine Wc.fix (st' := ⟨[(0, (.v (.sl (List.map GIns.c i333_)), [])), (1, (.v (.int .i64 (wr.i64 (b335_ + 1))), [])), (5, (.v (.int .i64 b336_), []))], [], []⟩) [] [0, 1, 5] [] [] (by kernel_rfl) ?_
            refine Wc.skip ?_
            refine Wc.seq ?_
            refine Wc.region [] [] [0, 1, 5] [] [] ⟨[(0, (.v (.sl (List.map GIns.c i333_)), [])), (1, (.v (.int .i64 (wr.i64 ((wr.i64 (b335_ + 1)) + 1))), [])), (5, (.v (.int .i64 b336_), []))], [], []⟩ _ (by kernel_rfl) .nil ?_
            refine Wc.seq ?_
            refine Wc.seq ?_
            obtain ⟨n341_, h358, h351⟩ := obind h351
            refine Wc.region [{}, {}, { v := some (.vptr [.int .i64 n341_.gOp, .str n341_.gName, .int .i64 n341_.gNum, .int .i64 n341_.gMany]) }] [] [0, 1, 5, 37] [] [] ⟨[(0, (.v (.sl (List.map GIns.c i333_)), [])), (1, (.v (.int .i64 (wr.i64 ((wr.i64 (b335_ + 1)) + 1))), [])), (5, (.v (.int .i64 b336_), [])), (37, (.v (.bool (n341_.gNum != (wr.i64 ((wr.i64 (b335_ + 1)) + 1)))), []))], [], []⟩ _ (by kernel_rfl) (.cons (at_obl (c := GIns.c) (GIns.c_eq n341_) GIns.c_len h358) (.cons (len_ok 1 [.int .i64 n341_.gNum, .int .i64 n341_.gMany]) .nil)) ?_
            rcases oif h351 with ⟨h359, h351⟩ | ⟨h359, h351⟩
            · refine Wc.condT h359 (by kernel_rfl) ?_
              refine Wc.seq ?_
              refine Wc.region [] [] [4] [] [] ⟨[(4, (.v (.int .i64 (-1)), []))], [], []⟩ _ (by kernel_rfl) .nil ?_
              refine Wc.ret ?_
              obtain rfl := Option.some.inj h351
              obtain rfl := Option.some.inj h
              exact ⟨.inl rfl, by kernel_rfl, by kernel_rfl⟩
            · refine Wc.condF h359 (by kernel_rfl) ?_
              refine Wc.fix (st' := ⟨[(0, (.v (.sl (List.map GIns.c i333_)), [])), (1, (.v (.int .i64 (wr.i64 ((wr.i64 (b335_ + 1)) + 1))), [])), (5, (.v (.int .i64 b336_), []))], [], []⟩) [] [0, 1, 5] [] [] (by kernel_rfl) ?_
              refine Wc.skip ?_
              refine Wc.seq ?_
              refine Wc.region [] [] [0, 1, 5] [] [] ⟨[(0, (.v (.sl (List.map GIns.c i333_)), [])), (1, (.v (.int .i64 (wr.i64 ((wr.i64 ((wr.i64 (b335_ + 1)) + 1)) + 1))), [])), (5, (.v (.int .i64 b336_), []))], [], []⟩ _ (by kernel_rfl) .nil ?_
              refine Wc.seq ?_
              refine Wc.seq ?_
              obtain ⟨n342_, h360, h351⟩ := obind h351
              refine Wc.region [{}, {}, { v := some (.vptr [.int .i64 n342_.gOp, .str n342_.gName, .int .i64 n342_.gNum, .int .i64 n342_.gMany]) }] [] [0, 1, 5, 46] [] [] ⟨[(0, (.v (.sl (List.map GIns.c i333_)), [])), (1, (.v (.int .i64 (wr.i64 ((wr.i64 ((wr.i64 (b335_ + 1)) + 1)) + 1))), [])), (5, (.v (.int .i64 b336_), [])), (46, (.v (.bool (n342_.gMany != (wr.i64 ((wr.i64 ((wr.i64 (b335_ + 1)) + 1)) + 1)))), []))], [], []⟩ _ (by kernel_rfl) (.cons (at_obl (c := GIns.c) (GIns.c_eq n342_) GIns.c_len h360) (.cons (len_ok 1 [.int .i64 n342_.gMany]) .nil)) ?_
              rcases oif h351 with ⟨h361, h351⟩ | ⟨h361, h351⟩
              · refine Wc.condT h361 (by kernel_rfl) ?_
                refine Wc.seq ?_
                refine Wc.region [] [] [4] [] [] ⟨[(4, (.v (.int .i64 (-1)), []))], [], []⟩ _ (by kernel_rfl) .nil ?_
                refine Wc.ret ?_
                obtain rfl := Option.some.inj h351
                obtain rfl := Option.some.inj h
                exact ⟨.inl rfl, by kernel_rfl, by kernel_rfl⟩
              · refine Wc.condF h361 (by kernel_rfl) ?_
                refine Wc.fix (st' := ⟨[(0, (.v (.sl (List.map GIns.c i333_)), [])), (1, (.v (.int .i64 (wr.i64 ((wr.i64 ((wr.i64 (b335_ + 1)) + 1)) + 1))), [])), (5, (.v (.int .i64 b336_), []))], [], []⟩) [] [0, 1, 5] [] [] (by kernel_rfl) ?_
                refine Wc.skip ?_
                refine Wc.region [] [] [0, 1, 5] [] [] ⟨[(0, (.v (.sl (List.map GIns.c i333_)), [])), (1, (.v (.int .i64 (wr.i64 ((wr.i64 ((wr.i64 ((wr.i64 (b335_ + 1)) + 1)) + 1)) + 1))), [])), (5, (.v (.int .i64 b336_), []))], [], []⟩ _ (by kernel_rfl) .nil ?_
                refine Wc.region [] [] [0, 1, 5] [] [] ⟨[(0, (.v (.sl (List.map GIns.c i333_)), [])), (1, (.v (.int .i64 (wr.i64 ((wr.i64 ((wr.i64 ((wr.i64 (b335_ + 1)) + 1)) + 1)) + 1))), [])), (5, (.v (.int .i64 (wr.i64 (b336_ + 1))), []))], [], []⟩ _ (by kernel_rfl) .nil ?_
                exact ⟨_, Nat.lt_succ_self _, _, _, rfl, h351⟩
      · refine Wc.condF h352 (by kernel_rfl) ?_
        refine Wc.fix (st' := ⟨[(1, (.v (.int .i64 b335_), []))], [], []⟩) [] [1] [] [] (by kernel_rfl) ?_
        refine Wc.exit ?_
        obtain rfl := Option.some.inj h351
        exact ⟨_, rfl, rfl⟩
  · rintro st ⟨b337_, rfl, rfl⟩
    refine Wc.seq ?_
    refine Wc.region [] [] [4] [] [] ⟨[(4, (.v (.int .i64 b337_), []))], [], []⟩ _ (by kernel_rfl) .nil ?_
    refine Wc.ret ?_
    obtain rfl := Option.some.inj h
    exact ⟨.inl rfl, by kernel_rfl, by kernel_rfl⟩

/-- laws.heldCode -/
def plaws_heldCode (k : Nat) (o343_ : GCode) (b344_ : Int) : Option Int :=
  (plaws_heldInsS k o343_.gHead b344_).bind fun b345_ =>
  if (decide (b345_ < 0)) = true then
    some (-1)
  else
    (plaws_heldInsS k o343_.gBody b345_).bind fun b346_ =>
    if (decide (b346_ < 0)) = true then
      some (-1)
    else
      some b346_
theorem claws_heldCode {k : Nat} {o343_ : GCode} {b344_ : Int} {r : Int} (h : plaws_heldCode k o343_ b344_ = some r) : FnO Try.prog 33 [.v (.agg [.sl (List.map GIns.c o343_.gHead), .sl (List.map GIns.c o343_.gBody), .int .i64 o343_.gVars]) [], .v (.int .i64 b344_) []] (.v (.int .i64 r) []) [] := by
  refine FnO.of Try.func33 (rfl : Try.f33.body = some _) (Nat.le_of_ble_eq_true (by kernel_rfl)) (Nat.le_of_ble_eq_true (by kernel_rfl)) ?_
  intro w0 X0 Fin pv0 pb
  unfold plaws_heldCode at h
  refine Wc.seq ?_
  refine Wc.region [] [] [1, 2] [2] [] ⟨[(1, (.v (.int .i64 b344_), [])), (2, (.ptr 2 0, []))], [(2, .cells [.sl (List.map GIns.c o343_.gHead), .sl (List.map GIns.c o343_.gBody), .int .i64 o343_.gVars] [])], []⟩ _ (by kernel_rfl) .nil ?_
  refine Wc.seq ?_
  obtain ⟨b345_, h362, h⟩ := obind h
  refine Wc.region [{}, {}, {}, { r := some (.v (.int .i64 b345_) []) }] [] [1, 2] [2] [] ⟨[(1, (.v (.int .i64 b345_), [])), (2, (.ptr 2 0, []))], [(2, .cells [.sl (List.map GIns.c o343_.gHead), .sl (List.map GIns.c o343_.gBody), .int .i64 o343_.gVars] [])], []⟩ _ (by kernel_rfl) (.cons (claws_heldInsS h362) .nil) ?_
  refine Wc.seq ?_
  refine Wc.seq ?_
  refine Wc.region [] [] [1, 2, 10] [2] [] ⟨[(1, (.v (.int .i64 b345_), [])), (2, (.ptr 2 0, [])), (10, (.v (.bool (decide (b345_ < 0))), []))], [(2, .cells [.sl (List.map GIns.c o343_.gHead), .sl (List.map GIns.c o343_.gBody), .int .i64 o343_.gVars] [])], []⟩ _ (by kernel_rfl) .nil ?_
  rcases oif h with ⟨h363, h⟩ | ⟨h363, h⟩
  · refine Wc.condT h363 (by kernel_rfl) ?_
    refine Wc.seq ?_
    refine Wc.region [] [] [4] [] [] ⟨[(4, (.v (.int .i64 (-1)), []))], [], []⟩ _ (by kernel_rfl) .nil ?_
    refine Wc.ret ?_
    obtain rfl := Option.some.inj h
    exact ⟨.inl rfl, by kernel_rfl, by kernel_rfl⟩
  · refine Wc.condF h363 (by kernel_rfl) ?_
    refine Wc.fix (st' := ⟨[(1, (.v (.int .i64 b345_), [])), (2, (.ptr 2 0, []))], [(2, .cells [.sl (List.map GIns.c o343_.gHead), .sl (List.map GIns.c o343_.gBody), .int .i64 o343_.gVars] [])], []⟩) [] [1, 2] [2] [] (by kernel_rfl) ?_
    refine Wc.skip ?_
    refine Wc.seq ?_
    obtain ⟨b346_, h364, h⟩ := obind h
    refine Wc.region [{}, {}, {}, { r := some (.v (.int .i64 b346_) []) }] [] [1] [] [] ⟨[(1, (.v (.int .i64 b346_), []))], [], []⟩ _ (by kernel_rfl) (.cons (claws_heldInsS h364) .nil) ?_
    refine Wc.seq ?_
    refine Wc.seq ?_
    refine Wc.region [] [] [1, 16] [] [] ⟨[(1, (.v (.int .i64 b346_), [])), (16, (.v (.bool (decide (b346_ < 0))), []))], [], []⟩ _ (by kernel_rfl) .nil ?_
    rcases oif h with ⟨h365, h⟩ | ⟨h365, h⟩
    · refine Wc.condT h365 (by kernel_rfl) ?_
      refine Wc.seq ?_
      refine Wc.region [] [] [4] [] [] ⟨[(4, (.v (.int .i64 (-1)), []))], [], []⟩ _ (by kernel_rfl) .nil ?_
      refine Wc.ret ?_
      obtain rfl := Option.some.inj h
      exact ⟨.inl rfl, by kernel_rfl, by kernel_rfl⟩
    · refine Wc.condF h365 (by kernel_rfl) ?_
      refine Wc.fix (st' := ⟨[(1, (.v (.int .i64 b346_), []))], [], []⟩) [] [1] [] [] (by kernel_rfl) ?_
      refine Wc.skip ?_
      refine Wc.seq ?_
      refine Wc.region [] [] [4] [] [] ⟨[(4, (.v (.int .i64 b346_), []))], [], []⟩ _ (by kernel_rfl) .nil ?_
      refine Wc.ret ?_
      obtain rfl := Option.some.inj h
      exact ⟨.inl rfl, by kernel_rfl, by kernel_rfl⟩

def plaws_toTermS_d_L1 (k : Nat) (rlaws_toTerm_d : GTerm → Option GTerm) (rlaws_toTermS_d : (List GTerm) → Option (List GTerm)) (a359_ : List GTerm) : Nat → (List GTerm) → Int → Option (Out (List GTerm) (List GTerm))
  | 0, _, _ => none
  | m + 1, a360_, b361_ =>
    if (decide (b361_ < (a359_.length : Int))) = true then
      (at' a359_ b361_).bind fun c363_ =>
      (rlaws_toTerm_d c363_).bind fun c364_ =>
      (at' a360_ b361_).bind fun c365_ =>
      plaws_toTermS_d_L1 k rlaws_toTerm_d rlaws_toTermS_d a359_ m (a360_.set ((b361_).toNat) c364_) (wr.i64 (b361_ + 1))
    else
      some (.done a360_)
mutual
/-- laws.toTerm -/
def plaws_toTerm_d : Nat → GTerm → Option GTerm
  | 0, _ => none
  | k + 1, c357_ =>
    (plaws_toTermS_d k c357_.gKids).bind fun m358_ =>
    some (GTerm.mk c357_.gKind c357_.gName c357_.gNum m358_)
/-- laws.toTermS -/
def plaws_toTermS_d : Nat → (List GTerm) → Option (List GTerm)
  | 0, _ => none
  | k + 1, a359_ =>
    if 0 ≤ (a359_.length : Int) ∧ (a359_.length : Int) ≤ 1073741824 then
      (plaws_toTermS_d_L1 k (plaws_toTerm_d k) (plaws_toTermS_d k) a359_ k (List.replicate ((a359_.length : Int)).toNat (GTerm.mk 0 (bs []) 0 [])) 0).bind fun out1 => match out1 with
      | .ret r => some r
      | .done a362_ =>
        some a362_
    else none
end
theorem all_plaws_toTerm_d : ∀ k : Nat, (∀ {c357_ : GTerm} {r : GTerm}, plaws_toTerm_d k c357_ = some r → FnO Try.prog 36 [.v (.agg [.int .i64 c357_.gKind, .str c357_.gName, .int .i64 c357_.gNum, .sl (List.map GTerm.c c357_.gKids)]) []] (.v (.agg [.int .i64 r.gKind, .str r.gName, .int .i64 r.gNum, .slx]) [(3, .ex 42 true (List.map GTerm.c r.gKids))]) []) ∧
    (∀ {a359_ : List GTerm} {r : (List GTerm)}, plaws_toTermS_d k a359_ = some r → FnO Try.prog 90 [.v (.sl (List.map GTerm.c a359_)) []] (.v (.slx) [(0, .ex 42 true (List.map GTerm.c r))]) []) := by
  intro k
  induction k with
  | zero =>
    refine ⟨?_, ?_⟩
    · intro c357_ r h
      exact (onone (by rw [plaws_toTerm_d] at h; exact h)).elim
    · intro a359_ r h
      exact (onone (by rw [plaws_toTermS_d] at h; exact h)).elim
  | succ k ih =>
    obtain ⟨ih_plaws_toTerm_d, ih_plaws_toTermS_d⟩ := ih
    refine ⟨?_, ?_⟩
    · intro c357_ r h
      rw [plaws_toTerm_d] at h
      refine FnO.of Try.func36 (rfl : Try.f36.body = some _) (Nat.le_of_ble_eq_true (by kernel_rfl)) (Nat.le_of_ble_eq_true (by kernel_rfl)) ?_
      intro w0 X0 Fin pv0 pb
      refine Wc.seq ?_
      refine Wc.region [] [] [1, 2] [1, 2] [] ⟨[(1, (.ptr 1 0, [])), (2, (.ptr 2 0, []))], [(1, .cells [.int .i64 c357_.gKind, .str c357_.gName, .int .i64 c357_.gNum, .sl (List.map GTerm.c c357_.gKids)] []), (2, .cells [.int .i64 0, .str (bs []), .int .i64 0, .sl (List.map GTerm.c [])] [(3, .app 42)])], []⟩ _ (by kernel_rfl) .nil ?_
      refine Wc.seq ?_
      refine Wc.region [] [] [1, 2, 3] [1, 2, 3] [] ⟨[(1, (.ptr 1 0, [])), (2, (.ptr 2 0, [])), (3, (.ptr 3 0, []))], [(1, .cells [.int .i64 c357_.gKind, .str c357_.gName, .int .i64 c357_.gNum, .sl (List.map GTerm.c c357_.gKids)] []), (2, .cells [.int .i64 0, .str (bs []), .int .i64 0, .sl (List.map GTerm.c [])] [(3, .app 42)]), (3, .cells [.int .i64 0, .str (bs []), .int .i64 0, .sl (List.map GTerm.c [])] [(3, .app 42)])], []⟩ _ (by kernel_rfl) .nil ?_
      refine Wc.seq ?_
      refine Wc.region [] [] [1, 2, 3] [1, 2, 3] [] ⟨[(1, (.ptr 1 0, [])), (2, (.ptr 2 0, [])), (3, (.ptr 3 0, []))], [(1, .cells [.int .i64 c357_.gKind, .str c357_.gName, .int .i64 c357_.gNum, .sl (List.map GTerm.c c357_.gKids)] []), (2, .cells [.int .i64 0, .str (bs []), .int .i64 0, .sl (List.map GTerm.c [])] [(3, .app 42)]), (3, .cells [.int .i64 c357_.gKind, .str (bs []), .int .i64 0, .sl (List.map GTerm.c [])] [(3, .app 42)])], []⟩ _ (by kernel_rfl) .nil ?_
      refine Wc.seq ?_
      refine Wc.region [] [] [1, 2, 3] [1, 2, 3] [] ⟨[(1, (.ptr 1 0, [])), (2, (.ptr 2 0, [])), (3, (.ptr 3 0, []))], [(1, .cells [.int .i64 c357_.gKind, .str c357_.gName, .int .i64 c357_.gNum, .sl (List.map GTerm.c c357_.gKids)] []), (2, .cells [.int .i64 0, .str (bs []), .int .i64 0, .sl (List.map GTerm.c [])] [(3, .app 42)]), (3, .cells [.int .i64 c357_.gKind, .str c357_.gName, .int .i64 0, .sl (List.map GTerm.c [])] [(3, .app 42)])], []⟩ _ (by kernel_rfl) .nil ?_
      refine Wc.seq ?_
      refine Wc.region [] [] [1, 2, 3] [1, 2, 3] [] ⟨[(1, (.ptr 1 0, [])), (2, (.ptr 2 0, [])), (3, (.ptr 3 0, []))], [(1, .cells [.int .i64 c357_.gKind, .str c357_.gName, .int .i64 c357_.gNum, .sl (List.map GTerm.c c357_.gKids)] []), (2, .cells [.int .i64 0, .str (bs []), .int .i64 0, .sl (List.map GTerm.c [])] [(3, .app 42)]), (3, .cells [.int .i64 c357_.gKind, .str c357_.gName, .int .i64 c357_.gNum, .sl (List.map GTerm.c [])] [(3, .app 42)])], []⟩ _ (by kernel_rfl) .nil ?_
      refine Wc.seq ?_
      obtain ⟨m358_, h373, h⟩ := obind h
      refine Wc.region [{}, {}, { r := some (.v (.slx) [(0, .ex 42 true (List.map GTerm.c m358_))]) }, {}, { tk := [15] }] [] [2, 3] [2, 3] [] ⟨[(2, (.ptr 2 0, [])), (3, (.ptr 3 0, []))], [(2, .cells [.int .i64 0, .str (bs []), .int .i64 0, .sl (List.map GTerm.c [])] [(3, .app 42)]), (3, .cells [.int .i64 c357_.gKind, .str c357_.gName, .int .i64 c357_.gNum, .slx] [(3, .ex 42 true (List.map GTerm.c m358_))])], []⟩ _ (by kernel_rfl) (.cons (ih_plaws_toTermS_d h373) .nil) ?_
      refine Wc.seq ?_
      refine Wc.region [{ md := 1 }, { tk := [17] }] [] [2] [2] [] ⟨[(2, (.ptr 2 0, []))], [(2, .cells [.int .i64 c357_.gKind, .str c357_.gName, .int .i64 c357_.gNum, .slx] [(3, .ex 42 true (List.map GTerm.c m358_))])], []⟩ _ (by kernel_rfl) .nil ?_
      refine Wc.ret ?_
      obtain rfl := Option.some.inj h
      exact ⟨.inl rfl, by kernel_rfl, by kernel_rfl⟩
    · intro a359_ r h
      rw [plaws_toTermS_d] at h
      refine FnO.of Try.func90 (rfl : Try.f90.body = some _) (Nat.le_of_ble_eq_true (by kernel_rfl)) (Nat.le_of_ble_eq_true (by kernel_rfl)) ?_
      intro w0 X0 Fin pv0 pb
      refine Wc.seq ?_
      refine Wc.region [] [] [0] [] [] ⟨[(0, (.v (.sl (List.map GTerm.c a359_)), []))], [], []⟩ _ (by kernel_rfl) .nil ?_
      refine Wc.seq ?_
      obtain ⟨h374, h⟩ := oguard h
      refine Wc.region [{}, { v := some (.int .i64 (a359_.length : Int)) }, { c := some (List.map GTerm.c (List.replicate ((a359_.length : Int)).toNat (GTerm.mk 0 (bs []) 0 []))) }, { tk := [7] }] [] [0, 3] [] [] ⟨[(0, (.v (.sl (List.map GTerm.c a359_)), [])), (3, (.v (.slx), [(0, .ex 42 true (List.map GTerm.c (List.replicate ((a359_.length : Int)).toNat (GTerm.mk 0 (bs []) 0 []))))]))], [], []⟩ _ (by kernel_rfl) (.cons (len_obl GTerm.c a359_) (.cons (rep_re (c := GTerm.c) (z := (GTerm.mk 0 (bs []) 0 [])) (GTerm.c_eq (GTerm.mk 0 (bs []) 0 [])) ((a359_.length : Int)).toNat) (.cons (ms_obl h374) .nil))) ?_
      refine Wc.seq ?_
      refine Wc.seq ?_
      refine Wc.region [] [] [0, 3, 4] [] [] ⟨[(0, (.v (.sl (List.map GTerm.c a359_)), [])), (3, (.v (.slx), [(0, .ex 42 true (List.map GTerm.c (List.replicate ((a359_.length : Int)).toNat (GTerm.mk 0 (bs []) 0 []))))])), (4, (.v (.int .i64 0), []))], [], []⟩ _ (by kernel_rfl) .nil ?_
      obtain ⟨out1, h375, h⟩ := obind h
      refine Wc.lastJ (fun st => ∃ (a362_ : List GTerm), out1 = .done a362_ ∧ st = ⟨[(3, (.v (.slx), [(0, .ex 42 true (List.map GTerm.c a362_))]))], [], []⟩) ?_ ?_
      · refine Wc.block ?_
        refine Wc.loop (fun m st => ∃ (a360_ : List GTerm) (b361_ : Int), st = ⟨[(0, (.v (.sl (List.map GTerm.c a359_)), [])), (3, (.v (.slx), [(0, .ex 42 true (List.map GTerm.c a360_))])), (4, (.v (.int .i64 b361_), []))], [], []⟩ ∧ plaws_toTermS_d_L1 k (plaws_toTerm_d k) (plaws_toTermS_d k) a359_ m a360_ b361_ = some out1) ?_ k ⟨_, _, rfl, h375⟩
        rintro m st ⟨a360_, b361_, rfl, h375⟩
        cases m with
        | zero => exact (onone h375).elim
        | succ m =>
          refine Wc.seq ?_
          refine Wc.seq ?_
          refine Wc.region [{}, {}, { v := some (.int .i64 (a359_.length : Int)) }] [] [0, 3, 4, 11] [] [] ⟨[(0, (.v (.sl (List.map GTerm.c a359_)), [])), (3, (.v (.slx), [(0, .ex 42 true (List.map GTerm.c a360_))])), (4, (.v (.int .i64 b361_), [])), (11, (.v (.bool (decide (b361_ < (a359_.length : Int)))), []))], [], []⟩ _ (by kernel_rfl) (.cons (len_obl GTerm.c a359_) .nil) ?_
          rcases oif h375 with ⟨h376, h375⟩ | ⟨h376, h375⟩
          · refine Wc.condT h376 (by kernel_rfl) ?_
            refine Wc.fix (st' := ⟨[(0, (.v (.sl (List.map GTerm.c a359_)), [])), (3, (.v (.slx), [(0, .ex 42 true (List.map GTerm.c a360_))])), (4, (.v (.int .i64 b361_), []))], [], []⟩) [] [0, 3, 4] [] [] (by kernel_rfl) ?_
            refine Wc.skip ?_
            refine Wc.seq ?_
            refine Wc.block ?_
            obtain ⟨c363_, h377, h375⟩ := obind h375
            obtain ⟨c364_, h378, h375⟩ := obind h375
            obtain ⟨c365_, h379, h375⟩ := obind h375
            refine Wc.region [{}, {}, {}, {}, { v := some (.vptr [.int .i64 c363_.gKind, .str c363_.gName, .int .i64 c363_.gNum, .sl (List.map GTerm.c c363_.gKids)]) }, {}, { r := some (.v (.agg [.int .i64 c364_.gKind, .str c364_.gName, .int .i64 c364_.gNum, .slx]) [(3, .ex 42 true (List.map GTerm.c c364_.gKids))]) }, {}, { c := some (List.map GTerm.c (a360_.set ((b361_).toNat) c364_)), tk := [20] }] [] [0, 3, 4] [] [] ⟨[(0, (.v (.sl (List.map GTerm.c a359_)), [])), (3, (.v (.slx), [(0, .ex 42 true (List.map GTerm.c (a360_.set ((b361_).toNat) c364_)))])), (4, (.v (.int .i64 b361_), []))], [], []⟩ _ (by kernel_rfl) (.cons (at_obl (c := GTerm.c) (GTerm.c_eq c363_) GTerm.c_len h377) (.cons (len_ok 4 [.int .i64 c363_.gKind, .str c363_.gName, .int .i64 c363_.gNum, .sl (List.map GTerm.c c363_.gKids)]) (.cons (ih_plaws_toTerm_d h378) (.cons (ix_obl (c := GTerm.c) GTerm.c_len h379) (.cons (mod_obl (off := 0) (new := [.int .i64 c364_.gKind, .str c364_.gName, .int .i64 c364_.gNum, .sl (List.map GTerm.c c364_.gKids)]) (c := GTerm.c) (GTerm.c_eq c365_) (GTerm.c_eq c364_) (at'_spec h379).2 rfl) (.cons (st_obl (sz := 4) (off := 0) (s := 4) (c := GTerm.c) (GTerm.c_eq c365_) (at'_spec h379).2 rfl (Nat.le_of_ble_eq_true rfl)) .nil)))))) ?_
            refine Wc.region [] [] [0, 3, 4] [] [] ⟨[(0, (.v (.sl (List.map GTerm.c a359_)), [])), (3, (.v (.slx), [(0, .ex 42 true (List.map GTerm.c (a360_.set ((b361_).toNat) c364_)))])), (4, (.v (.int .i64 (wr.i64 (b361_ + 1))), []))], [], []⟩ _ (by kernel_rfl) .nil ?_
            exact ⟨_, Nat.lt_succ_self _, _, _, rfl, h375⟩
          · refine Wc.condF h376 (by kernel_rfl) ?_
            refine Wc.fix (st' := ⟨[(3, (.v (.slx), [(0, .ex 42 true (List.map GTerm.c a360_))]))], [], []⟩) [] [3] [] [] (by kernel_rfl) ?_
            refine Wc.exit ?_
            obtain rfl := Option.some.inj h375
            exact ⟨_, rfl, rfl⟩
      · rintro st ⟨a362_, rfl, rfl⟩
        refine Wc.seq ?_
        refine Wc.region [{ tk := [3] }, { tk := [22] }] [] [2] [] [] ⟨[(2, (.v (.slx), [(0, .ex 42 true (List.map GTerm.c a362_))]))], [], []⟩ _ (by kernel_rfl) .nil ?_
        refine Wc.ret ?_
        obtain rfl := Option.some.inj h
        exact ⟨.inl rfl, by kernel_rfl, by kernel_rfl⟩
theorem claws_toTerm_d {k : Nat} {c357_ : GTerm} {r : GTerm} (h : plaws_toTerm_d k c357_ = some r) : FnO Try.prog 36 [.v (.agg [.int .i64 c357_.gKind, .str c357_.gName, .int .i64 c357_.gNum, .sl (List.map GTerm.c c357_.gKids)]) []] (.v (.agg [.int .i64 r.gKind, .str r.gName, .int .i64 r.gNum, .slx]) [(3, .ex 42 true (List.map GTerm.c r.gKids))]) [] := (all_plaws_toTerm_d k).1 h
theorem claws_toTermS_d {k : Nat} {a359_ : List GTerm} {r : (List GTerm)} (h : plaws_toTermS_d k a359_ = some r) : FnO Try.prog 90 [.v (.sl (List.map GTerm.c a359_)) []] (.v (.slx) [(0, .ex 42 true (List.map GTerm.c r))]) [] := (all_plaws_toTerm_d k).2 h

def pimpl_wordsOf_d_L1 (k : Nat) (rimpl_wordsOf_d : GTerm → (List Int) → Option ((List GIns) × (List Int))) (c365_ : GTerm) : Nat → (List Int) → (List GIns) → Int → Option (Out ((List GIns) × (List Int)) ((List Int) × (List GIns)))
  | 0, _, _, _ => none
  | m + 1, g368_, i369_, b370_ =>
    if (decide (b370_ < (c365_.gKids.length : Int))) = true then
      (at' c365_.gKids b370_).bind fun c373_ =>
      (rimpl_wordsOf_d c373_ g368_).bind fun j374_ =>
      if i369_.length + j374_.1.length ≤ 1073741824 then
        pimpl_wordsOf_d_L1 k rimpl_wordsOf_d c365_ m j374_.2 (i369_ ++ j374_.1) (wr.i64 (b370_ + 1))
      else none
    else
      some (.done (g368_, i369_))
mutual
/-- impl.wordsOf -/
def pimpl_wordsOf_d : Nat → GTerm → (List Int) → Option ((List GIns) × (List Int))
  | 0, _, _ => none
  | k + 1, c365_, g366_ =>
    if (c365_.gKind == 2) = true then
      some ([GIns.mk 1 c365_.gName 0 0], g366_)
    else
      if (c365_.gKind == 3) = true then
        some ([GIns.mk 2 (bs []) c365_.gNum 0], g366_)
      else
        if (c365_.gKind == 1) = true then
          (pslices_Contains___int_int_ k g366_ c365_.gNum).bind fun f367_ =>
          if f367_ = true then
            some ([GIns.mk 4 (bs []) c365_.gNum 0], g366_)
          else
            if g366_.length + [c365_.gNum].length ≤ 1073741824 then
              some ([GIns.mk 3 (bs []) c365_.gNum 0], g366_ ++ [c365_.gNum])
            else none
        else
          (pimpl_wordsOf_d_L1 k (pimpl_wordsOf_d k) c365_ k g366_ [GIns.mk 5 c365_.gName 0 (c365_.gKids.length : Int)] 0).bind fun out1 => match out1 with
          | .ret r => some r
          | .done (g371_, i372_) =>
            some (i372_, g371_)
end
theorem all_pimpl_wordsOf_d : ∀ k : Nat, (∀ {c365_ : GTerm} {g366_ : List Int} {r : (List GIns) × (List Int)}, pimpl_wordsOf_d k c365_ g366_ = some r → FnO Try.prog 127 [.v (.agg [.int .i64 c365_.gKind, .str c365_.gName, .int .i64 c365_.gNum, .sl (List.map GTerm.c c365_.gKids)]) [], .v (.slx) [(0, .ex 3 true (List.map cI.i64 g366_))]] (.v (.tup [.slx, .slx]) [(0, .ex 158 true (List.map GIns.c r.1)), (1, .ex 3 true (List.map cI.i64 r.2))]) []) := by
  intro k
  induction k with
  | zero =>
    · intro c365_ g366_ r h
      exact (onone (by rw [pimpl_wordsOf_d] at h; exact h)).elim
  | succ k ih =>
    have ih_pimpl_wordsOf_d := @ih
    · intro c365_ g366_ r h
      rw [pimpl_wordsOf_d] at h
      refine FnO.of Try.func127 (rfl : Try.f127.body = some _) (Nat.le_of_ble_eq_true (by kernel_rfl)) (Nat.le_of_ble_eq_true (by kernel_rfl)) ?_
      intro w0 X0 Fin pv0 pb
      refine Wc.seq ?_
      refine Wc.region [] [] [1, 2] [2] [] ⟨[(1, (.v (.slx), [(0, .ex 3 true (List.map cI.i64 g366_))])), (2, (.ptr 2 0, []))], [(2, .cells [.int .i64 c365_.gKind, .str c365_.gName, .int .i64 c365_.gNum, .sl (List.map GTerm.c c365_.gKids)] [])], []⟩ _ (by kernel_rfl) .nil ?_
      refine Wc.seq ?_
      refine Wc.seq ?_
      refine Wc.region [] [] [1, 2, 11] [2] [] ⟨[(1, (.v (.slx), [(0, .ex 3 true (List.map cI.i64 g366_))])), (2, (.ptr 2 0, [])), (11, (.v (.int .i64 c365_.gKind), []))], [(2, .cells [.int .i64 c365_.gKind, .str c365_.gName, .int .i64 c365_.gNum, .sl (List.map GTerm.c c365_.gKids)] [])], []⟩ _ (by kernel_rfl) .nil ?_
      refine Wc.block ?_
      refine Wc.seq ?_
      refine Wc.region [] [] [1, 2, 11, 12] [2] [] ⟨[(1, (.v (.slx), [(0, .ex 3 true (List.map cI.i64 g366_))])), (2, (.ptr 2 0, [])), (11, (.v (.int .i64 c365_.gKind), [])), (12, (.v (.bool (c365_.gKind == 2)), []))], [(2, .cells [.int .i64 c365_.gKind, .str c365_.gName, .int .i64 c365_.gNum, .sl (List.map GTerm.c c365_.gKids)] [])], []⟩ _ (by kernel_rfl) .nil ?_
      rcases oif h with ⟨h385, h⟩ | ⟨h385, h⟩
      · refine Wc.condT h385 (by kernel_rfl) ?_
        refine Wc.seq ?_
        refine Wc.region [{}, {}, {}, { c := some (List.map GIns.c [GIns.mk 1 c365_.gName 0 0]), md := 2 }, { tk := [1] }, { tk := [17] }, { tk := [18] }] [] [4, 5] [] [] ⟨[(4, (.v (.slx), [(0, .ex 158 true (List.map GIns.c [GIns.mk 1 c365_.gName 0 0]))])), (5, (.v (.slx), [(0, .ex 3 true (List.map cI.i64 g366_))]))], [], []⟩ _ (by kernel_rfl) (.cons (cl_cons (c := GIns.c) (x := GIns.mk 1 c365_.gName 0 0) (GIns.c_eq (GIns.mk 1 c365_.gName 0 0)) (cl_nil GIns.c)) .nil) ?_
        refine Wc.ret ?_
        obtain rfl := Option.some.inj h
        exact ⟨.inl rfl, by kernel_rfl, by kernel_rfl⟩
      · refine Wc.condF h385 (by kernel_rfl) ?_
        refine Wc.seq ?_
        refine Wc.region [] [] [1, 2, 11, 19] [2] [] ⟨[(1, (.v (.slx), [(0, .ex 3 true (List.map cI.i64 g366_))])), (2, (.ptr 2 0, [])), (11, (.v (.int .i64 c365_.gKind), [])), (19, (.v (.bool (c365_.gKind == 3)), []))], [(2, .cells [.int .i64 c365_.gKind, .str c365_.gName, .int .i64 c365_.gNum, .sl (List.map GTerm.c c365_.gKids)] [])], []⟩ _ (by kernel_rfl) .nil ?_
        rcases oif h with ⟨h386, h⟩ | ⟨h386, h⟩
        · refine Wc.condT h386 (by kernel_rfl) ?_
          refine Wc.seq ?_
          refine Wc.region [{}, {}, {}, { c := some (List.map GIns.c [GIns.mk 2 (bs []) c365_.gNum 0]), md := 2 }, { tk := [1] }, { tk := [24] }, { tk := [25] }] [] [4, 5] [] [] ⟨[(4, (.v (.slx), [(0, .ex 158 true (List.map GIns.c [GIns.mk 2 (bs []) c365_.gNum 0]))])), (5, (.v (.slx), [(0, .ex 3 true (List.map cI.i64 g366_))]))], [], []⟩ _ (by kernel_rfl) (.cons (cl_cons (c := GIns.c) (x := GIns.mk 2 (bs []) c365_.gNum 0) (GIns.c_eq (GIns.mk 2 (bs []) c365_.gNum 0)) (cl_nil GIns.c)) .nil) ?_
          refine Wc.ret ?_
          obtain rfl := Option.some.inj h
          exact ⟨.inl rfl, by kernel_rfl, by kernel_rfl⟩
        · refine Wc.condF h386 (by kernel_rfl) ?_
          refine Wc.seq ?_
          refine Wc.region [] [] [1, 2, 26] [2] [] ⟨[(1, (.v (.slx), [(0, .ex 3 true (List.map cI.i64 g366_))])), (2, (.ptr 2 0, [])), (26, (.v (.bool (c365_.gKind == 1)), []))], [(2, .cells [.int .i64 c365_.gKind, .str c365_.gName, .int .i64 c365_.gNum, .sl (List.map GTerm.c c365_.gKids)] [])], []⟩ _ (by kernel_rfl) .nil ?_
          rcases oif h with ⟨h387, h⟩ | ⟨h387, h⟩
          · refine Wc.condT h387 (by kernel_rfl) ?_
            refine Wc.seq ?_
            refine Wc.seq ?_
            obtain ⟨f367_, h388, h⟩ := obind h
            refine Wc.region [{}, {}, {}, { r := some (.v (.bool f367_) []) }] [] [1, 2, 31] [2] [] ⟨[(1, (.v (.slx), [(0, .ex 3 true (List.map cI.i64 g366_))])), (2, (.ptr 2 0, [])), (31, (.v (.bool f367_), []))], [(2, .cells [.int .i64 c365_.gKind, .str c365_.gName, .int .i64 c365_.gNum, .sl (List.map GTerm.c c365_.gKids)] [])], []⟩ _ (by kernel_rfl) (.cons (cslices_Contains___int_int_ h388) .nil) ?_
            rcases oif h with ⟨h389, h⟩ | ⟨h389, h⟩
            · refine Wc.condT h389 (by kernel_rfl) ?_
              refine Wc.seq ?_
              refine Wc.region [{}, {}, {}, { c := some (List.map GIns.c [GIns.mk 4 (bs []) c365_.gNum 0]), md := 2 }, { tk := [1] }, { tk := [35] }, { tk := [36] }] [] [4, 5] [] [] ⟨[(4, (.v (.slx), [(0, .ex 158 true (List.map GIns.c [GIns.mk 4 (bs []) c365_.gNum 0]))])), (5, (.v (.slx), [(0, .ex 3 true (List.map cI.i64 g366_))]))], [], []⟩ _ (by kernel_rfl) (.cons (cl_cons (c := GIns.c) (x := GIns.mk 4 (bs []) c365_.gNum 0) (GIns.c_eq (GIns.mk 4 (bs []) c365_.gNum 0)) (cl_nil GIns.c)) .nil) ?_
              refine Wc.ret ?_
              obtain rfl := Option.some.inj h
              exact ⟨.inl rfl, by kernel_rfl, by kernel_rfl⟩
            · refine Wc.condF h389 (by kernel_rfl) ?_
              refine Wc.fix (st' := ⟨[(1, (.v (.slx), [(0, .ex 3 true (List.map cI.i64 g366_))])), (2, (.ptr 2 0, []))], [(2, .cells [.int .i64 c365_.gKind, .str c365_.gName, .int .i64 c365_.gNum, .sl (List.map GTerm.c c365_.gKids)] [])], []⟩) [] [1, 2] [2] [] (by kernel_rfl) ?_
              refine Wc.skip ?_
              refine Wc.seq ?_
              obtain ⟨h390, h⟩ := oguard h
              refine Wc.draw hmix [{}, {}, {}, { c := some (List.map GIns.c [GIns.mk 3 (bs []) c365_.gNum 0]), md := 2 }, { tk := [1] }, {}, {}, { c := some (List.map cI.i64 [c365_.gNum]) }, { c := some (List.map cI.i64 (g366_ ++ [c365_.gNum])), tk := [41], md := 2 }, { tk := [40] }, { tk := [45] }] [] [4, 5] [] [] ⟨[(4, (.v (.slx), [(0, .ex 158 true (List.map GIns.c [GIns.mk 3 (bs []) c365_.gNum 0]))])), (5, (.v (.slx), [(0, .ex 3 true (List.map cI.i64 (g366_ ++ [c365_.gNum])))]))], [], []⟩ _ (by kernel_rfl) (fun X => by kernel_rfl) (.cons (cl_cons (c := GIns.c) (x := GIns.mk 3 (bs []) c365_.gNum 0) (GIns.c_eq (GIns.mk 3 (bs []) c365_.gNum 0)) (cl_nil GIns.c)) (.cons (cl_cons (c := cI.i64) (x := c365_.gNum) rfl (cl_nil cI.i64)) (.cons (app_re2 cI.i64 g366_ [c365_.gNum]) (.cons (app_scal (c := cI.i64) (ys := [c365_.gNum]) cI.i64_scal) (.cons (app_obl2 (c := cI.i64) (xs := g366_) (ys := [c365_.gNum]) cI.i64_len h390) .nil))))) ?_
              refine Wc.ret ?_
              obtain rfl := Option.some.inj h
              exact ⟨.inl rfl, by kernel_rfl, by kernel_rfl⟩
          · refine Wc.condF h387 (by kernel_rfl) ?_
            refine Wc.fix (st' := ⟨[(1, (.v (.slx), [(0, .ex 3 true (List.map cI.i64 g366_))])), (2, (.ptr 2 0, []))], [(2, .cells [.int .i64 c365_.gKind, .str c365_.gName, .int .i64 c365_.gNum, .sl (List.map GTerm.c c365_.gKids)] [])], []⟩) [] [1, 2] [2] [] (by kernel_rfl) ?_
            refine Wc.skip ?_
            refine Wc.seq ?_
            refine Wc.region [{}, {}, {}, {}, { v := some (.int .i64 (c365_.gKids.length : Int)) }, {}, { c := some (List.map GIns.c [GIns.mk 5 c365_.gName 0 (c365_.gKids.length : Int)]), md := 2 }, { tk := [52] }] [] [1, 2, 6] [2] [] ⟨[(1, (.v (.slx), [(0, .ex 3 true (List.map cI.i64 g366_))])), (2, (.ptr 2 0, [])), (6, (.v (.slx), [(0, .ex 158 true (List.map GIns.c [GIns.mk 5 c365_.gName 0 (c365_.gKids.length : Int)]))]))], [(2, .cells [.int .i64 c365_.gKind, .str c365_.gName, .int .i64 c365_.gNum, .sl (List.map GTerm.c c365_.gKids)] [])], []⟩ _ (by kernel_rfl) (.cons (len_obl GTerm.c c365_.gKids) (.cons (cl_cons (c := GIns.c) (x := GIns.mk 5 c365_.gName 0 (c365_.gKids.length : Int)) (GIns.c_eq (GIns.mk 5 c365_.gName 0 (c365_.gKids.length : Int))) (cl_nil GIns.c)) .nil)) ?_
            refine Wc.seq ?_
            refine Wc.seq ?_
            refine Wc.region [{}, {}, { v := some (.int .i64 (c365_.gKids.length : Int)) }] [] [1, 6, 54, 55, 56] [] [] ⟨[(1, (.v (.slx), [(0, .ex 3 true (List.map cI.i64 g366_))])), (6, (.v (.slx), [(0, .ex 158 true (List.map GIns.c [GIns.mk 5 c365_.gName 0 (c365_.gKids.length : Int)]))])), (54, (.v (.sl (List.map GTerm.c c365_.gKids)), [])), (55, (.v (.int .i64 (c365_.gKids.length : Int)), [])), (56, (.v (.int .i64 0), []))], [], []⟩ _ (by kernel_rfl) (.cons (len_obl GTerm.c c365_.gKids) .nil) ?_
            obtain ⟨out1, h391, h⟩ := obind h
            refine Wc.lastJ (fun st => ∃ (g371_ : List Int) (i372_ : List GIns), out1 = .done (g371_, i372_) ∧ st = ⟨[(1, (.v (.slx), [(0, .ex 3 true (List.map cI.i64 g371_))])), (6, (.v (.slx), [(0, .ex 158 true (List.map GIns.c i372_))]))], [], []⟩) ?_ ?_
            · refine Wc.block ?_
              refine Wc.loop (fun m st => ∃ (g368_ : List Int) (i369_ : List GIns) (b370_ : Int), st = ⟨[(1, (.v (.slx), [(0, .ex 3 true (List.map cI.i64 g368_))])), (6, (.v (.slx), [(0, .ex 158 true (List.map GIns.c i369_))])), (54, (.v (.sl (List.map GTerm.c c365_.gKids)), [])), (55, (.v (.int .i64 (c365_.gKids.length : Int)), [])), (56, (.v (.int .i64 b370_), []))], [], []⟩ ∧ pimpl_wordsOf_d_L1 k (pimpl_wordsOf_d k) c365_ m g368_ i369_ b370_ = some out1) ?_ k ⟨_, _, _, rfl, h391⟩
              rintro m st ⟨g368_, i369_, b370_, rfl, h391⟩
              cases m with
              | zero => exact (onone h391).elim
              | succ m =>
                refine Wc.seq ?_
                refine Wc.region [] [] [1, 6, 54, 55, 56, 57] [] [] ⟨[(1, (.v (.slx), [(0, .ex 3 true (List.map cI.i64 g368_))])), (6, (.v (.slx), [(0, .ex 158 true (List.map GIns.c i369_))])), (54, (.v (.sl (List.map GTerm.c c365_.gKids)), [])), (55, (.v (.int .i64 (c365_.gKids.length : Int)), [])), (56, (.v (.int .i64 b370_), [])), (57, (.v (.bool (decide (b370_ < (c365_.gKids.length : Int)))), []))], [], []⟩ _ (by kernel_rfl) .nil ?_
                refine Wc.seq ?_
                rcases oif h391 with ⟨h392, h391⟩ | ⟨h392, h391⟩
                · refine Wc.condT h392 (by kernel_rfl) ?_
                  refine Wc.fix (st' := ⟨[(1, (.v (.slx), [(0, .ex 3 true (List.map cI.i64 g368_))])), (6, (.v (.slx), [(0, .ex 158 true (List.map GIns.c i369_))])), (54, (.v (.sl (List.map GTerm.c c365_.gKids)), [])), (55, (.v (.int .i64 (c365_.gKids.length : Int)), [])), (56, (.v (.int .i64 b370_), []))], [], []⟩) [] [1, 6, 54, 55, 56] [] [] (by kernel_rfl) ?_
                  refine Wc.skip ?_
                  refine Wc.seq ?_
                  refine Wc.block ?_
                  refine Wc.seq ?_
                  obtain ⟨c373_, h393, h391⟩ := obind h391
                  refine Wc.region [{ v := some (.vptr [.int .i64 c373_.gKind, .str c373_.gName, .int .i64 c373_.gNum, .sl (List.map GTerm.c c373_.gKids)]) }] [] [1, 6, 8, 54, 55, 56] [8] [] ⟨[(1, (.v (.slx), [(0, .ex 3 true (List.map cI.i64 g368_))])), (6, (.v (.slx), [(0, .ex 158 true (List.map GIns.c i369_))])), (8, (.ptr 8 0, [])), (54, (.v (.sl (List.map GTerm.c c365_.gKids)), [])), (55, (.v (.int .i64 (c365_.gKids.length : Int)), [])), (56, (.v (.int .i64 b370_), []))], [(8, .cells [.int .i64 c373_.gKind, .str c373_.gName, .int .i64 c373_.gNum, .sl (List.map GTerm.c c373_.gKids)] [])], []⟩ _ (by kernel_rfl) (.cons (at_obl (c := GTerm.c) (GTerm.c_eq c373_) GTerm.c_len h393) (.cons (len_ok 4 [.int .i64 c373_.gKind, .str c373_.gName, .int .i64 c373_.gNum, .sl (List.map GTerm.c c373_.gKids)]) .nil)) ?_
                  refine Wc.seq ?_
                  refine Wc.region [] [] [1, 6, 8, 54, 55, 56] [8] [] ⟨[(1, (.v (.slx), [(0, .ex 3 true (List.map cI.i64 g368_))])), (6, (.v (.slx), [(0, .ex 158 true (List.map GIns.c i369_))])), (8, (.ptr 8 0, [])), (54, (.v (.sl (List.map GTerm.c c365_.gKids)), [])), (55, (.v (.int .i64 (c365_.gKids.length : Int)), [])), (56, (.v (.int .i64 b370_), []))], [(8, .cells [.int .i64 c373_.gKind, .str c373_.gName, .int .i64 c373_.gNum, .sl (List.map GTerm.c c373_.gKids)] [])], []⟩ _ (by kernel_rfl) .nil ?_
                  refine Wc.seq ?_
                  obtain ⟨j374_, h394, h391⟩ := obind h391
                  refine Wc.region [{}, { tk := [1] }, { tk := [62], r := some (.v (.tup [.slx, .slx]) [(0, .ex 158 true (List.map GIns.c j374_.1)), (1, .ex 3 true (List.map cI.i64 j374_.2))]) }, { tk := [63] }, { tk := [60] }, { tk := [60] }, { tk := [64] }, { tk := [65] }] [] [1, 6, 9, 54, 55, 56] [] [] ⟨[(1, (.v (.slx), [(0, .ex 3 true (List.map cI.i64 j374_.2))])), (6, (.v (.slx), [(0, .ex 158 true (List.map GIns.c i369_))])), (9, (.v (.slx), [(0, .ex 158 true (List.map GIns.c j374_.1))])), (54, (.v (.sl (List.map GTerm.c c365_.gKids)), [])), (55, (.v (.int .i64 (c365_.gKids.length : Int)), [])), (56, (.v (.int .i64 b370_), []))], [], []⟩ _ (by kernel_rfl) (.cons (ih_pimpl_wordsOf_d h394) .nil) ?_
                  obtain ⟨h395, h391⟩ := oguard h391
                  refine Wc.region [{ tk := [6] }, { tk := [9] }, { c := some (List.map GIns.c (i369_ ++ j374_.1)), tk := [66, 67], md := 2 }, { tk := [68] }] [] [1, 6, 54, 55, 56] [] [] ⟨[(1, (.v (.slx), [(0, .ex 3 true (List.map cI.i64 j374_.2))])), (6, (.v (.slx), [(0, .ex 158 true (List.map GIns.c (i369_ ++ j374_.1)))])), (54, (.v (.sl (List.map GTerm.c c365_.gKids)), [])), (55, (.v (.int .i64 (c365_.gKids.length : Int)), [])), (56, (.v (.int .i64 b370_), []))], [], []⟩ _ (by kernel_rfl) (.cons (app_re2 GIns.c i369_ j374_.1) (.cons (app_obl2 (c := GIns.c) (xs := i369_) (ys := j374_.1) GIns.c_len h395) .nil)) ?_
                  refine Wc.region [] [] [1, 6, 54, 55, 56] [] [] ⟨[(1, (.v (.slx), [(0, .ex 3 true (List.map cI.i64 j374_.2))])), (6, (.v (.slx), [(0, .ex 158 true (List.map GIns.c (i369_ ++ j374_.1)))])), (54, (.v (.sl (List.map GTerm.c c365_.gKids)), [])), (55, (.v (.int .i64 (c365_.gKids.length : Int)), [])), (56, (.v (.int .i64 (wr.i64 (b370_ + 1))), []))], [], []⟩ _ (by kernel_rfl) .nil ?_
                  exact ⟨_, Nat.lt_succ_self _, _, _, _, rfl, h391⟩
                · refine Wc.condF h392 (by kernel_rfl) ?_
                  refine Wc.fix (st' := ⟨[(1, (.v (.slx), [(0, .ex 3 true (List.map cI.i64 g368_))])), (6, (.v (.slx), [(0, .ex 158 true (List.map GIns.c i369_))]))], [], []⟩) [] [1, 6] [] [] (by kernel_rfl) ?_
                  refine Wc.exit ?_
                  obtain rfl := Option.some.inj h391
                  exact ⟨_, _, rfl, rfl⟩
            · rintro st ⟨g371_, i372_, rfl, rfl⟩
              refine Wc.seq ?_
              refine Wc.region [{ tk := [6] }, { tk := [1] }, { tk := [70] }, { tk := [71] }] [] [4, 5] [] [] ⟨[(4, (.v (.slx), [(0, .ex 158 true (List.map GIns.c i372_))])), (5, (.v (.slx), [(0, .ex 3 true (List.map cI.i64 g371_))]))], [], []⟩ _ (by kernel_rfl) .nil ?_
              refine Wc.ret ?_
              obtain rfl := Option.some.inj h
              exact ⟨.inl rfl, by kernel_rfl, by kernel_rfl⟩
theorem cimpl_wordsOf_d {k : Nat} {c365_ : GTerm} {g366_ : List Int} {r : (List GIns) × (List Int)} (h : pimpl_wordsOf_d k c365_ g366_ = some r) : FnO Try.prog 127 [.v (.agg [.int .i64 c365_.gKind, .str c365_.gName, .int .i64 c365_.gNum, .sl (List.map GTerm.c c365_.gKids)]) [], .v (.slx) [(0, .ex 3 true (List.map cI.i64 g366_))]] (.v (.tup [.slx, .slx]) [(0, .ex 158 true (List.map GIns.c r.1)), (1, .ex 3 true (List.map cI.i64 r.2))]) [] := (all_pimpl_wordsOf_d k) h

def pimpl_WordsOf_d_L1 (k : Nat) (g360_ : List Int) : Nat → (List Int) → Int → Option (Out ((List GIns) × (List Int)) (List Int))
  | 0, _, _ => none
  | m + 1, g361_, b362_ =>
    if (decide (b362_ < (g360_.length : Int))) = true then
      (at' g360_ b362_).bind fun b364_ =>
      (pslices_Contains___int_int_ k g361_ b364_).bind fun f365_ =>
      if (!f365_) = true then
        if g361_.length + [b364_].length ≤ 1073741824 then
          pimpl_WordsOf_d_L1 k g360_ m (g361_ ++ [b364_]) (wr.i64 (b362_ + 1))
        else none
      else
        pimpl_WordsOf_d_L1 k g360_ m g361_ (wr.i64 (b362_ + 1))
    else
      some (.done g361_)
/-- impl.WordsOf -/
def pimpl_WordsOf_d (k : Nat) (c359_ : GTerm) (g360_ : List Int) : Option ((List GIns) × (List Int)) :=
  (pimpl_WordsOf_d_L1 k g360_ k [] 0).bind fun out1 => match out1 with
  | .ret r => some r
  | .done g363_ =>
    (pimpl_TermOk k c359_).bind fun f366_ =>
    if (!f366_) = true then
      some ([], g363_)
    else
      (pimpl_wordsOf_d k c359_ g363_).bind fun j367_ =>
      some (j367_.1, j367_.2)
theorem cimpl_WordsOf_d {k : Nat} {c359_ : GTerm} {g360_ : List Int} {r : (List GIns) × (List Int)} (h : pimpl_WordsOf_d k c359_ g360_ = some r) : FnO Try.prog 82 [.v (.agg [.int .i64 c359_.gKind, .str c359_.gName, .int .i64 c359_.gNum, .sl (List.map GTerm.c c359_.gKids)]) [], .v (.sl (List.map cI.i64 g360_)) []] (.v (.tup [.slx, .slx]) [(0, .ex 158 true (List.map GIns.c r.1)), (1, .ex 3 true (List.map cI.i64 r.2))]) [] := by
  refine FnO.of Try.func82 (rfl : Try.f82.body = some _) (Nat.le_of_ble_eq_true (by kernel_rfl)) (Nat.le_of_ble_eq_true (by kernel_rfl)) ?_
  intro w0 X0 Fin pv0 pb
  unfold pimpl_WordsOf_d at h
  refine Wc.seq ?_
  refine Wc.region [] [] [1, 2] [2] [] ⟨[(1, (.v (.sl (List.map cI.i64 g360_)), [])), (2, (.ptr 2 0, []))], [(2, .cells [.int .i64 c359_.gKind, .str c359_.gName, .int .i64 c359_.gNum, .sl (List.map GTerm.c c359_.gKids)] [])], []⟩ _ (by kernel_rfl) .nil ?_
  refine Wc.seq ?_
  refine Wc.region [] [] [1, 2, 6] [2] [] ⟨[(1, (.v (.sl (List.map cI.i64 g360_)), [])), (2, (.ptr 2 0, [])), (6, (.v (.sl (List.map cI.i64 [])), [(0, .app 3)]))], [(2, .cells [.int .i64 c359_.gKind, .str c359_.gName, .int .i64 c359_.gNum, .sl (List.map GTerm.c c359_.gKids)] [])], []⟩ _ (by kernel_rfl) .nil ?_
  refine Wc.seq ?_
  refine Wc.seq ?_
  refine Wc.region [{}, { v := some (.int .i64 (g360_.length : Int)) }] [] [2, 6, 9, 10, 11] [2] [] ⟨[(2, (.ptr 2 0, [])), (6, (.v (.sl (List.map cI.i64 [])), [(0, .app 3)])), (9, (.v (.sl (List.map cI.i64 g360_)), [])), (10, (.v (.int .i64 (g360_.length : Int)), [])), (11, (.v (.int .i64 0), []))], [(2, .cells [.int .i64 c359_.gKind, .str c359_.gName, .int .i64 c359_.gNum, .sl (List.map GTerm.c c359_.gKids)] [])], []⟩ _ (by kernel_rfl) (.cons (len_obl cI.i64 g360_) .nil) ?_
  obtain ⟨out1, h379, h⟩ := obind h
  refine Wc.lastJ (fun st => ∃ (g363_ : List Int), out1 = .done g363_ ∧ st = ⟨[(2, (.ptr 2 0, [])), (6, (.v (.slx), [(0, .ex 3 true (List.map cI.i64 g363_))]))], [(2, .cells [.int .i64 c359_.gKind, .str c359_.gName, .int .i64 c359_.gNum, .sl (List.map GTerm.c c359_.gKids)] [])], []⟩) ?_ ?_
  · refine Wc.block ?_
    refine Wc.fix (st' := ⟨[(2, (.ptr 2 0, [])), (6, (.v (.slx), [(0, .ex 3 true (List.map cI.i64 []))])), (9, (.v (.sl (List.map cI.i64 g360_)), [])), (10, (.v (.int .i64 (g360_.length : Int)), [])), (11, (.v (.int .i64 0), []))], [(2, .cells [.int .i64 c359_.gKind, .str c359_.gName, .int .i64 c359_.gNum, .sl (List.map GTerm.c c359_.gKids)] [])], []⟩) [.ow (.t 6 0) true] [2, 6, 9, 10, 11] [2] [] (by kernel_rfl) ?_
    refine Wc.loop (fun m st => ∃ (g361_ : List Int) (b362_ : Int), st = ⟨[(2, (.ptr 2 0, [])), (6, (.v (.slx), [(0, .ex 3 true (List.map cI.i64 g361_))])), (9, (.v (.sl (List.map cI.i64 g360_)), [])), (10, (.v (.int .i64 (g360_.length : Int)), [])), (11, (.v (.int .i64 b362_), []))], [(2, .cells [.int .i64 c359_.gKind, .str c359_.gName, .int .i64 c359_.gNum, .sl (List.map GTerm.c c359_.gKids)] [])], []⟩ ∧ pimpl_WordsOf_d_L1 k g360_ m g361_ b362_ = some out1) ?_ k ⟨_, _, rfl, h379⟩
    rintro m st ⟨g361_, b362_, rfl, h379⟩
    cases m with
    | zero => exact (onone h379).elim
    | succ m =>
      refine Wc.seq ?_
      refine Wc.region [] [] [2, 6, 9, 10, 11, 12] [2] [] ⟨[(2, (.ptr 2 0, [])), (6, (.v (.slx), [(0, .ex 3 true (List.map cI.i64 g361_))])), (9, (.v (.sl (List.map cI.i64 g360_)), [])), (10, (.v (.int .i64 (g360_.length : Int)), [])), (11, (.v (.int .i64 b362_), [])), (12, (.v (.bool (decide (b362_ < (g360_.length : Int)))), []))], [(2, .cells [.int .i64 c359_.gKind, .str c359_.gName, .int .i64 c359_.gNum, .sl (List.map GTerm.c c359_.gKids)] [])], []⟩ _ (by kernel_rfl) .nil ?_
      refine Wc.seq ?_
      rcases oif h379 with ⟨h380, h379⟩ | ⟨h380, h379⟩
      · refine Wc.condT h380 (by kernel_rfl) ?_
        refine Wc.fix (st' := ⟨[(2, (.ptr 2 0, [])), (6, (.v (.slx), [(0, .ex 3 true (List.map cI.i64 g361_))])), (9, (.v (.sl (List.map cI.i64 g360_)), [])), (10, (.v (.int .i64 (g360_.length : Int)), [])), (11, (.v (.int .i64 b362_), []))], [(2, .cells [.int .i64 c359_.gKind, .str c359_.gName, .int .i64 c359_.gNum, .sl (List.map GTerm.c c359_.gKids)] [])], []⟩) [] [2, 6, 9, 10, 11] [2] [] (by kernel_rfl) ?_
        refine Wc.skip ?_
        refine Wc.seq ?_
        refine Wc.block ?_
        refine Wc.seq ?_
        obtain ⟨b364_, h381, h379⟩ := obind h379
        refine Wc.region [{ v := some (.vptr [.int .i64 b364_]) }] [] [2, 6, 8, 9, 10, 11] [2] [] ⟨[(2, (.ptr 2 0, [])), (6, (.v (.slx), [(0, .ex 3 true (List.map cI.i64 g361_))])), (8, (.v (.int .i64 b364_), [])), (9, (.v (.sl (List.map cI.i64 g360_)), [])), (10, (.v (.int .i64 (g360_.length : Int)), [])), (11, (.v (.int .i64 b362_), []))], [(2, .cells [.int .i64 c359_.gKind, .str c359_.gName, .int .i64 c359_.gNum, .sl (List.map GTerm.c c359_.gKids)] [])], []⟩ _ (by kernel_rfl) (.cons (at_obl (c := cI.i64) rfl cI.i64_len h381) (.cons (len_ok 1 [.int .i64 b364_]) .nil)) ?_
        refine Wc.seq ?_
        obtain ⟨f365_, h382, h379⟩ := obind h379
        refine Wc.region [{}, {}, { r := some (.v (.bool f365_) []) }] [] [2, 6, 8, 9, 10, 11, 18] [2] [] ⟨[(2, (.ptr 2 0, [])), (6, (.v (.slx), [(0, .ex 3 true (List.map cI.i64 g361_))])), (8, (.v (.int .i64 b364_), [])), (9, (.v (.sl (List.map cI.i64 g360_)), [])), (10, (.v (.int .i64 (g360_.length : Int)), [])), (11, (.v (.int .i64 b362_), [])), (18, (.v (.bool (!f365_)), []))], [(2, .cells [.int .i64 c359_.gKind, .str c359_.gName, .int .i64 c359_.gNum, .sl (List.map GTerm.c c359_.gKids)] [])], []⟩ _ (by kernel_rfl) (.cons (cslices_Contains___int_int_ h382) .nil) ?_
        rcases oif h379 with ⟨h383, h379⟩ | ⟨h383, h379⟩
        · refine Wc.condT h383 (by kernel_rfl) ?_
          obtain ⟨h384, h379⟩ := oguard h379
          refine Wc.region [{ tk := [6] }, {}, { c := some (List.map cI.i64 [b364_]) }, { c := some (List.map cI.i64 (g361_ ++ [b364_])), tk := [19], md := 2 }, { tk := [22] }] [] [2, 6, 9, 10, 11] [2] [] ⟨[(2, (.ptr 2 0, [])), (6, (.v (.slx), [(0, .ex 3 true (List.map cI.i64 (g361_ ++ [b364_])))])), (9, (.v (.sl (List.map cI.i64 g360_)), [])), (10, (.v (.int .i64 (g360_.length : Int)), [])), (11, (.v (.int .i64 b362_), []))], [(2, .cells [.int .i64 c359_.gKind, .str c359_.gName, .int .i64 c359_.gNum, .sl (List.map GTerm.c c359_.gKids)] [])], []⟩ _ (by kernel_rfl) (.cons (cl_cons (c := cI.i64) (x := b364_) rfl (cl_nil cI.i64)) (.cons (app_re2 cI.i64 g361_ [b364_]) (.cons (app_scal (c := cI.i64) (ys := [b364_]) cI.i64_scal) (.cons (app_obl2 (c := cI.i64) (xs := g361_) (ys := [b364_]) cI.i64_len h384) .nil)))) ?_
          refine Wc.region [] [] [2, 6, 9, 10, 11] [2] [] ⟨[(2, (.ptr 2 0, [])), (6, (.v (.slx), [(0, .ex 3 true (List.map cI.i64 (g361_ ++ [b364_])))])), (9, (.v (.sl (List.map cI.i64 g360_)), [])), (10, (.v (.int .i64 (g360_.length : Int)), [])), (11, (.v (.int .i64 (wr.i64 (b362_ + 1))), []))], [(2, .cells [.int .i64 c359_.gKind, .str c359_.gName, .int .i64 c359_.gNum, .sl (List.map GTerm.c c359_.gKids)] [])], []⟩ _ (by kernel_rfl) .nil ?_
          exact ⟨_, Nat.lt_succ_self _, _, _, rfl, h379⟩
        · refine Wc.condF h383 (by kernel_rfl) ?_
          refine Wc.fix (st' := ⟨[(2, (.ptr 2 0, [])), (6, (.v (.slx), [(0, .ex 3 true (List.map cI.i64 g361_))])), (9, (.v (.sl (List.map cI.i64 g360_)), [])), (10, (.v (.int .i64 (g360_.length : Int)), [])), (11, (.v (.int .i64 b362_), []))], [(2, .cells [.int .i64 c359_.gKind, .str c359_.gName, .int .i64 c359_.gNum, .sl (List.map GTerm.c c359_.gKids)] [])], []⟩) [] [2, 6, 9, 10, 11] [2] [] (by kernel_rfl) ?_
          refine Wc.skip ?_
          refine Wc.region [] [] [2, 6, 9, 10, 11] [2] [] ⟨[(2, (.ptr 2 0, [])), (6, (.v (.slx), [(0, .ex 3 true (List.map cI.i64 g361_))])), (9, (.v (.sl (List.map cI.i64 g360_)), [])), (10, (.v (.int .i64 (g360_.length : Int)), [])), (11, (.v (.int .i64 (wr.i64 (b362_ + 1))), []))], [(2, .cells [.int .i64 c359_.gKind, .str c359_.gName, .int .i64 c359_.gNum, .sl (List.map GTerm.c c359_.gKids)] [])], []⟩ _ (by kernel_rfl) .nil ?_
          exact ⟨_, Nat.lt_succ_self _, _, _, rfl, h379⟩
      · refine Wc.condF h380 (by kernel_rfl) ?_
        refine Wc.fix (st' := ⟨[(2, (.ptr 2 0, [])), (6, (.v (.slx), [(0, .ex 3 true (List.map cI.i64 g361_))]))], [(2, .cells [.int .i64 c359_.gKind, .str c359_.gName, .int .i64 c359_.gNum, .sl (List.map GTerm.c c359_.gKids)] [])], []⟩) [] [2, 6] [2] [] (by kernel_rfl) ?_
        refine Wc.exit ?_
        obtain rfl := Option.some.inj h379
        exact ⟨_, rfl, rfl⟩
  · rintro st ⟨g363_, rfl, rfl⟩
    refine Wc.seq ?_
    refine Wc.seq ?_
    obtain ⟨f366_, h385, h⟩ := obind h
    refine Wc.region [{}, { r := some (.v (.bool f366_) []) }] [] [2, 6, 26] [2] [] ⟨[(2, (.ptr 2 0, [])), (6, (.v (.slx), [(0, .ex 3 true (List.map cI.i64 g363_))])), (26, (.v (.bool (!f366_)), []))], [(2, .cells [.int .i64 c359_.gKind, .str c359_.gName, .int .i64 c359_.gNum, .sl (List.map GTerm.c c359_.gKids)] [])], []⟩ _ (by kernel_rfl) (.cons (cimpl_TermOk h385) .nil) ?_
    rcases oif h with ⟨h386, h⟩ | ⟨h386, h⟩
    · refine Wc.condT h386 (by kernel_rfl) ?_
      refine Wc.seq ?_
      refine Wc.region [{ tk := [6] }, {}, { tk := [27] }] [] [4, 5] [] [] ⟨[(4, (.v (.sl (List.map GIns.c [])), [(0, .app 158)])), (5, (.v (.slx), [(0, .ex 3 true (List.map cI.i64 g363_))]))], [], []⟩ _ (by kernel_rfl) .nil ?_
      refine Wc.fix (st' := ⟨[(4, (.v (.slx), [(0, .ex 158 true (List.map GIns.c []))])), (5, (.v (.slx), [(0, .ex 3 true (List.map cI.i64 g363_))]))], [], []⟩) [.ow (.t 4 0) true] [4, 5] [] [] (by kernel_rfl) ?_
      refine Wc.ret ?_
      obtain rfl := Option.some.inj h
      exact ⟨.inl rfl, by kernel_rfl, by kernel_rfl⟩
    · refine Wc.condF h386 (by kernel_rfl) ?_
      refine Wc.fix (st' := ⟨[(2, (.ptr 2 0, [])), (6, (.v (.slx), [(0, .ex 3 true (List.map cI.i64 g363_))]))], [(2, .cells [.int .i64 c359_.gKind, .str c359_.gName, .int .i64 c359_.gNum, .sl (List.map GTerm.c c359_.gKids)] [])], []⟩) [] [2, 6] [2] [] (by kernel_rfl) ?_
      refine Wc.skip ?_
      refine Wc.seq ?_
      obtain ⟨j367_, h387, h⟩ := obind h
      refine Wc.region [{}, { tk := [6] }, { tk := [29], r := some (.v (.tup [.slx, .slx]) [(0, .ex 158 true (List.map GIns.c j367_.1)), (1, .ex 3 true (List.map cI.i64 j367_.2))]) }, { tk := [30] }, { tk := [30] }, { tk := [31] }, { tk := [32] }] [] [4, 5] [] [] ⟨[(4, (.v (.slx), [(0, .ex 158 true (List.map GIns.c j367_.1))])), (5, (.v (.slx), [(0, .ex 3 true (List.map cI.i64 j367_.2))]))], [], []⟩ _ (by kernel_rfl) (.cons (cimpl_wordsOf_d h387) .nil) ?_
      refine Wc.ret ?_
      obtain rfl := Option.some.inj h
      exact ⟨.inl rfl, by kernel_rfl, by kernel_rfl⟩

/-- laws.toClause -/
def plaws_toClause_d (k : Nat) (d354_ : GClause) : Option GClause :=
  (plaws_toTerm_d k d354_.gHead).bind fun c355_ =>
  (plaws_toTerm_d k d354_.gBody).bind fun c356_ =>
  some (GClause.mk c355_ c356_ d354_.gFile)
theorem claws_toClause_d {k : Nat} {d354_ : GClause} {r : GClause} (h : plaws_toClause_d k d354_ = some r) : FnO Try.prog 27 [.v (.agg [.int .i64 d354_.gHead.gKind, .str d354_.gHead.gName, .int .i64 d354_.gHead.gNum, .sl (List.map GTerm.c d354_.gHead.gKids), .int .i64 d354_.gBody.gKind, .str d354_.gBody.gName, .int .i64 d354_.gBody.gNum, .sl (List.map GTerm.c d354_.gBody.gKids), .str d354_.gFile]) []] (.v (.agg [.int .i64 r.gHead.gKind, .str r.gHead.gName, .int .i64 r.gHead.gNum, .slx, .int .i64 r.gBody.gKind, .str r.gBody.gName, .int .i64 r.gBody.gNum, .slx, .str r.gFile]) [(3, .ex 42 true (List.map GTerm.c r.gHead.gKids)), (7, .ex 42 true (List.map GTerm.c r.gBody.gKids))]) [] := by
  refine FnO.of Try.func27 (rfl : Try.f27.body = some _) (Nat.le_of_ble_eq_true (by kernel_rfl)) (Nat.le_of_ble_eq_true (by kernel_rfl)) ?_
  intro w0 X0 Fin pv0 pb
  unfold plaws_toClause_d at h
  refine Wc.seq ?_
  refine Wc.region [] [] [1, 2] [1, 2] [] ⟨[(1, (.ptr 1 0, [])), (2, (.ptr 2 0, []))], [(1, .cells [.int .i64 d354_.gHead.gKind, .str d354_.gHead.gName, .int .i64 d354_.gHead.gNum, .sl (List.map GTerm.c d354_.gHead.gKids), .int .i64 d354_.gBody.gKind, .str d354_.gBody.gName, .int .i64 d354_.gBody.gNum, .sl (List.map GTerm.c d354_.gBody.gKids), .str d354_.gFile] []), (2, .cells [.int .i64 0, .str (bs []), .int .i64 0, .sl (List.map GTerm.c []), .int .i64 0, .str (bs []), .int .i64 0, .sl (List.map GTerm.c []), .str (bs [])] [(3, .app 42), (7, .app 42)])], []⟩ _ (by kernel_rfl) .nil ?_
  refine Wc.seq ?_
  refine Wc.region [] [] [1, 2, 3] [1, 2, 3] [] ⟨[(1, (.ptr 1 0, [])), (2, (.ptr 2 0, [])), (3, (.ptr 3 0, []))], [(1, .cells [.int .i64 d354_.gHead.gKind, .str d354_.gHead.gName, .int .i64 d354_.gHead.gNum, .sl (List.map GTerm.c d354_.gHead.gKids), .int .i64 d354_.gBody.gKind, .str d354_.gBody.gName, .int .i64 d354_.gBody.gNum, .sl (List.map GTerm.c d354_.gBody.gKids), .str d354_.gFile] []), (2, .cells [.int .i64 0, .str (bs []), .int .i64 0, .sl (List.map GTerm.c []), .int .i64 0, .str (bs []), .int .i64 0, .sl (List.map GTerm.c []), .str (bs [])] [(3, .app 42), (7, .app 42)]), (3, .cells [.int .i64 0, .str (bs []), .int .i64 0, .sl (List.map GTerm.c []), .int .i64 0, .str (bs []), .int .i64 0, .sl (List.map GTerm.c []), .str (bs [])] [(3, .app 42), (7, .app 42)])], []⟩ _ (by kernel_rfl) .nil ?_
  refine Wc.seq ?_
  obtain ⟨c355_, h372, h⟩ := obind h
  refine Wc.region [{}, {}, { r := some (.v (.agg [.int .i64 c355_.gKind, .str c355_.gName, .int .i64 c355_.gNum, .slx]) [(3, .ex 42 true (List.map GTerm.c c355_.gKids))]) }, {}, { tk := [6] }] [.so 3] [1, 2, 3] [1, 2, 3] [] ⟨[(1, (.ptr 1 0, [])), (2, (.ptr 2 0, [])), (3, (.ptr 3 0, []))], [(1, .cells [.int .i64 d354_.gHead.gKind, .str d354_.gHead.gName, .int .i64 d354_.gHead.gNum, .sl (List.map GTerm.c d354_.gHead.gKids), .int .i64 d354_.gBody.gKind, .str d354_.gBody.gName, .int .i64 d354_.gBody.gNum, .sl (List.map GTerm.c d354_.gBody.gKids), .str d354_.gFile] []), (2, .cells [.int .i64 0, .str (bs []), .int .i64 0, .sl (List.map GTerm.c []), .int .i64 0, .str (bs []), .int .i64 0, .sl (List.map GTerm.c []), .str (bs [])] [(3, .app 42), (7, .app 42)]), (3, .cells [.int .i64 c355_.gKind, .str c355_.gName, .int .i64 c355_.gNum, .slx, .int .i64 0, .str (bs []), .int .i64 0, .sl (List.map GTerm.c []), .str (bs [])] [(3, .ex 42 true (List.map GTerm.c c355_.gKids)), (7, .app 42)])], []⟩ _ (by kernel_rfl) (.cons (claws_toTerm_d h372) .nil) ?_
  refine Wc.seq ?_
  obtain ⟨c356_, h373, h⟩ := obind h
  refine Wc.region [{}, {}, { r := some (.v (.agg [.int .i64 c356_.gKind, .str c356_.gName, .int .i64 c356_.gNum, .slx]) [(3, .ex 42 true (List.map GTerm.c c356_.gKids))]) }, {}, { tk := [10] }] [] [1, 2, 3] [1, 2, 3] [] ⟨[(1, (.ptr 1 0, [])), (2, (.ptr 2 0, [])), (3, (.ptr 3 0, []))], [(1, .cells [.int .i64 d354_.gHead.gKind, .str d354_.gHead.gName, .int .i64 d354_.gHead.gNum, .sl (List.map GTerm.c d354_.gHead.gKids), .int .i64 d354_.gBody.gKind, .str d354_.gBody.gName, .int .i64 d354_.gBody.gNum, .sl (List.map GTerm.c d354_.gBody.gKids), .str d354_.gFile] []), (2, .cells [.int .i64 0, .str (bs []), .int .i64 0, .sl (List.map GTerm.c []), .int .i64 0, .str (bs []), .int .i64 0, .sl (List.map GTerm.c []), .str (bs [])] [(3, .app 42), (7, .app 42)]), (3, .cells [.int .i64 c355_.gKind, .str c355_.gName, .int .i64 c355_.gNum, .slx, .int .i64 c356_.gKind, .str c356_.gName, .int .i64 c356_.gNum, .slx, .str (bs [])] [(3, .ex 42 true (List.map GTerm.c c355_.gKids)), (7, .ex 42 true (List.map GTerm.c c356_.gKids))])], []⟩ _ (by kernel_rfl) (.cons (claws_toTerm_d h373) .nil) ?_
  refine Wc.seq ?_
  refine Wc.region [] [] [2, 3] [2, 3] [] ⟨[(2, (.ptr 2 0, [])), (3, (.ptr 3 0, []))], [(2, .cells [.int .i64 0, .str (bs []), .int .i64 0, .sl (List.map GTerm.c []), .int .i64 0, .str (bs []), .int .i64 0, .sl (List.map GTerm.c []), .str (bs [])] [(3, .app 42), (7, .app 42)]), (3, .cells [.int .i64 c355_.gKind, .str c355_.gName, .int .i64 c355_.gNum, .slx, .int .i64 c356_.gKind, .str c356_.gName, .int .i64 c356_.gNum, .slx, .str d354_.gFile] [(3, .ex 42 true (List.map GTerm.c c355_.gKids)), (7, .ex 42 true (List.map GTerm.c c356_.gKids))])], []⟩ _ (by kernel_rfl) .nil ?_
  refine Wc.seq ?_
  refine Wc.region [{ md := 1 }, { tk := [15] }] [] [2] [2] [] ⟨[(2, (.ptr 2 0, []))], [(2, .cells [.int .i64 c355_.gKind, .str c355_.gName, .int .i64 c355_.gNum, .slx, .int .i64 c356_.gKind, .str c356_.gName, .int .i64 c356_.gNum, .slx, .str d354_.gFile] [(3, .ex 42 true (List.map GTerm.c c355_.gKids)), (7, .ex 42 true (List.map GTerm.c c356_.gKids))])], []⟩ _ (by kernel_rfl) .nil ?_
  refine Wc.ret ?_
  obtain rfl := Option.some.inj h
  exact ⟨.inl rfl, by kernel_rfl, by kernel_rfl⟩

/-- impl.CodeOf -/
def pimpl_CodeOf_d (k : Nat) (d358_ : GClause) : Option (GCode × Bool) :=
  (pimpl_TermOk k d358_.gHead).bind fun f359_ =>
  if (!f359_) = true then
    some (GCode.mk [] [] 0, false)
  else
    (pimpl_TermOk k d358_.gBody).bind fun f360_ =>
    if (!f360_) = true then
      some (GCode.mk [] [] 0, false)
    else
      (pimpl_WordsOf_d k d358_.gHead []).bind fun j361_ =>
      (pimpl_WordsOf_d k d358_.gBody j361_.2).bind fun j362_ =>
      (pimpl_varsUpTo k [d358_.gHead, d358_.gBody]).bind fun b363_ =>
      some (GCode.mk j361_.1 j362_.1 b363_, true)
theorem cimpl_CodeOf_d {k : Nat} {d358_ : GClause} {r : GCode × Bool} (h : pimpl_CodeOf_d k d358_ = some r) : FnO Try.prog 28 [.v (.agg [.int .i64 d358_.gHead.gKind, .str d358_.gHead.gName, .int .i64 d358_.gHead.gNum, .sl (List.map GTerm.c d358_.gHead.gKids), .int .i64 d358_.gBody.gKind, .str d358_.gBody.gName, .int .i64 d358_.gBody.gNum, .sl (List.map GTerm.c d358_.gBody.gKids), .str d358_.gFile]) []] (.v (.tup [.agg [.slx, .slx, .int .i64 r.1.gVars], .bool r.2]) [(0, .ex 158 true (List.map GIns.c r.1.gHead)), (1, .ex 158 true (List.map GIns.c r.1.gBody))]) [] := by
  refine FnO.of Try.func28 (rfl : Try.f28.body = some _) (Nat.le_of_ble_eq_true (by kernel_rfl)) (Nat.le_of_ble_eq_true (by kernel_rfl)) ?_
  intro w0 X0 Fin pv0 pb
  unfold pimpl_CodeOf_d at h
  refine Wc.seq ?_
  refine Wc.region [] [] [1, 2] [1, 2] [] ⟨[(1, (.ptr 1 0, [])), (2, (.ptr 2 0, []))], [(1, .cells [.int .i64 d358_.gHead.gKind, .str d358_.gHead.gName, .int .i64 d358_.gHead.gNum, .sl (List.map GTerm.c d358_.gHead.gKids), .int .i64 d358_.gBody.gKind, .str d358_.gBody.gName, .int .i64 d358_.gBody.gNum, .sl (List.map GTerm.c d358_.gBody.gKids), .str d358_.gFile] []), (2, .cells [.sl (List.map GIns.c []), .sl (List.map GIns.c []), .int .i64 0] [(0, .app 158), (1, .app 158)])], []⟩ _ (by kernel_rfl) .nil ?_
  refine Wc.seq ?_
  refine Wc.seq ?_
  obtain ⟨f359_, h378, h⟩ := obind h
  rcases oif h with ⟨h379, h⟩ | ⟨h379, h⟩
  · refine Wc.region [{}, {}, { r := some (.v (.bool f359_) []) }, {}, { re := some (.bool true) }] [] [1, 2, 17] [1, 2] [] ⟨[(1, (.ptr 1 0, [])), (2, (.ptr 2 0, [])), (17, (.v (.bool true), []))], [(1, .cells [.int .i64 d358_.gHead.gKind, .str d358_.gHead.gName, .int .i64 d358_.gHead.gNum, .sl (List.map GTerm.c d358_.gHead.gKids), .int .i64 d358_.gBody.gKind, .str d358_.gBody.gName, .int .i64 d358_.gBody.gNum, .sl (List.map GTerm.c d358_.gBody.gKids), .str d358_.gFile] []), (2, .cells [.sl (List.map GIns.c []), .sl (List.map GIns.c []), .int .i64 0] [(0, .app 158), (1, .app 158)])], []⟩ _ (by kernel_rfl) (.cons (cimpl_TermOk h378) (.cons (congrArg AV.bool h379) .nil)) ?_
    refine Wc.condT rfl (by kernel_rfl) ?_
    refine Wc.seq ?_
    refine Wc.region [{}, { tk := [18] }] [] [2, 3] [2] [] ⟨[(2, (.ptr 2 0, [])), (3, (.v (.bool false), []))], [(2, .cells [.sl (List.map GIns.c []), .sl (List.map GIns.c []), .int .i64 0] [(0, .app 158), (1, .app 158)])], []⟩ _ (by kernel_rfl) .nil ?_
    refine Wc.fix (st' := ⟨[(2, (.ptr 2 0, [])), (3, (.v (.bool false), []))], [(2, .cells [.slx, .slx, .int .i64 0] [(0, .ex 158 true (List.map GIns.c [])), (1, .ex 158 true (List.map GIns.c []))])], []⟩) [.ow (.b 2 0) true, .ow (.b 2 1) true] [2, 3] [2] [] (by kernel_rfl) ?_
    refine Wc.ret ?_
    obtain rfl := Option.some.inj h
    exact ⟨.inl rfl, by kernel_rfl, by kernel_rfl⟩
  · obtain ⟨f360_, h380, h⟩ := obind h
    refine Wc.region [{}, {}, { r := some (.v (.bool f359_) []) }, {}, { re := some (.bool false) }, {}, {}, { r := some (.v (.bool f360_) []) }] [] [1, 2, 17] [1, 2] [] ⟨[(1, (.ptr 1 0, [])), (2, (.ptr 2 0, [])), (17, (.v (.bool (!f360_)), []))], [(1, .cells [.int .i64 d358_.gHead.gKind, .str d358_.gHead.gName, .int .i64 d358_.gHead.gNum, .sl (List.map GTerm.c d358_.gHead.gKids), .int .i64 d358_.gBody.gKind, .str d358_.gBody.gName, .int .i64 d358_.gBody.gNum, .sl (List.map GTerm.c d358_.gBody.gKids), .str d358_.gFile] []), (2, .cells [.sl (List.map GIns.c []), .sl (List.map GIns.c []), .int .i64 0] [(0, .app 158), (1, .app 158)])], []⟩ _ (by kernel_rfl) (.cons (cimpl_TermOk h378) (.cons (congrArg AV.bool h379) (.cons (cimpl_TermOk h380) .nil))) ?_
    rcases oif h with ⟨h381, h⟩ | ⟨h381, h⟩
    · refine Wc.condT h381 (by kernel_rfl) ?_
      refine Wc.seq ?_
      refine Wc.region [{}, { tk := [18] }] [] [2, 3] [2] [] ⟨[(2, (.ptr 2 0, [])), (3, (.v (.bool false), []))], [(2, .cells [.sl (List.map GIns.c []), .sl (List.map GIns.c []), .int .i64 0] [(0, .app 158), (1, .app 158)])], []⟩ _ (by kernel_rfl) .nil ?_
      refine Wc.fix (st' := ⟨[(2, (.ptr 2 0, [])), (3, (.v (.bool false), []))], [(2, .cells [.slx, .slx, .int .i64 0] [(0, .ex 158 true (List.map GIns.c [])), (1, .ex 158 true (List.map GIns.c []))])], []⟩) [.ow (.b 2 0) true, .ow (.b 2 1) true] [2, 3] [2] [] (by kernel_rfl) ?_
      refine Wc.ret ?_
      obtain rfl := Option.some.inj h
      exact ⟨.inl rfl, by kernel_rfl, by kernel_rfl⟩
    · refine Wc.condF h381 (by kernel_rfl) ?_
      refine Wc.fix (st' := ⟨[(1, (.ptr 1 0, [])), (2, (.ptr 2 0, []))], [(1, .cells [.int .i64 d358_.gHead.gKind, .str d358_.gHead.gName, .int .i64 d358_.gHead.gNum, .sl (List.map GTerm.c d358_.gHead.gKids), .int .i64 d358_.gBody.gKind, .str d358_.gBody.gName, .int .i64 d358_.gBody.gNum, .sl (List.map GTerm.c d358_.gBody.gKids), .str d358_.gFile] []), (2, .cells [.sl (List.map GIns.c []), .sl (List.map GIns.c []), .int .i64 0] [(0, .app 158), (1, .app 158)])], []⟩) [] [1, 2] [1, 2] [] (by kernel_rfl) ?_
      refine Wc.skip ?_
      refine Wc.seq ?_
      obtain ⟨j361_, h382, h⟩ := obind h
      refine Wc.region [{}, {}, { r := some (.v (.tup [.slx, .slx]) [(0, .ex 158 true (List.map GIns.c j361_.1)), (1, .ex 3 true (List.map cI.i64 j361_.2))]) }, { tk := [22] }, { tk := [19] }, { tk := [19] }, { tk := [23] }, { tk := [24] }] [] [1, 2, 4, 5] [1, 2] [] ⟨[(1, (.ptr 1 0, [])), (2, (.ptr 2 0, [])), (4, (.v (.slx), [(0, .ex 158 true (List.map GIns.c j361_.1))])), (5, (.v (.slx), [(0, .ex 3 true (List.map cI.i64 j361_.2))]))], [(1, .cells [.int .i64 d358_.gHead.gKind, .str d358_.gHead.gName, .int .i64 d358_.gHead.gNum, .sl (List.map GTerm.c d358_.gHead.gKids), .int .i64 d358_.gBody.gKind, .str d358_.gBody.gName, .int .i64 d358_.gBody.gNum, .sl (List.map GTerm.c d358_.gBody.gKids), .str d358_.gFile] []), (2, .cells [.sl (List.map GIns.c []), .sl (List.map GIns.c []), .int .i64 0] [(0, .app 158), (1, .app 158)])], []⟩ _ (by kernel_rfl) (.cons (cimpl_WordsOf_d h382) .nil) ?_
      refine Wc.seq ?_
      obtain ⟨j362_, h383, h⟩ := obind h
      refine Wc.region [{}, {}, { tk := [5] }, { r := some (.v (.tup [.slx, .slx]) [(0, .ex 158 true (List.map GIns.c j362_.1)), (1, .ex 3 true (List.map cI.i64 j362_.2))]) }, { tk := [29] }, { tk := [25] }, { tk := [25] }, { tk := [30] }, { tk := [31] }] [] [1, 2, 4, 6] [1, 2] [] ⟨[(1, (.ptr 1 0, [])), (2, (.ptr 2 0, [])), (4, (.v (.slx), [(0, .ex 158 true (List.map GIns.c j361_.1))])), (6, (.v (.slx), [(0, .ex 158 true (List.map GIns.c j362_.1))]))], [(1, .cells [.int .i64 d358_.gHead.gKind, .str d358_.gHead.gName, .int .i64 d358_.gHead.gNum, .sl (List.map GTerm.c d358_.gHead.gKids), .int .i64 d358_.gBody.gKind, .str d358_.gBody.gName, .int .i64 d358_.gBody.gNum, .sl (List.map GTerm.c d358_.gBody.gKids), .str d358_.gFile] []), (2, .cells [.sl (List.map GIns.c []), .sl (List.map GIns.c []), .int .i64 0] [(0, .app 158), (1, .app 158)])], []⟩ _ (by kernel_rfl) (.cons (cimpl_WordsOf_d h383) .nil) ?_
      refine Wc.seq ?_
      obtain ⟨b363_, h384, h⟩ := obind h
      refine Wc.region [{ tk := [4] }, { tk := [6] }, {}, {}, {}, {}, { c := some (List.map GTerm.c [d358_.gHead, d358_.gBody]) }, { r := some (.v (.int .i64 b363_) []) }, { tk := [32, 33] }, { tk := [40] }] [] [2, 3] [2] [] ⟨[(2, (.ptr 2 0, [])), (3, (.v (.bool true), []))], [(2, .cells [.slx, .slx, .int .i64 b363_] [(0, .ex 158 true (List.map GIns.c j361_.1)), (1, .ex 158 true (List.map GIns.c j362_.1))])], []⟩ _ (by kernel_rfl) (.cons (cl_cons (c := GTerm.c) (x := d358_.gHead) (GTerm.c_eq d358_.gHead) (cl_cons (c := GTerm.c) (x := d358_.gBody) (GTerm.c_eq d358_.gBody) (cl_nil GTerm.c))) (.cons (cimpl_varsUpTo h384) .nil)) ?_
      refine Wc.ret ?_
      obtain rfl := Option.some.inj h
      exact ⟨.inl rfl, by kernel_rfl, by kernel_rfl⟩

/-- laws.FnExactCodeOf -/
def plaws_FnExactCodeOf (k : Nat) (d347_ : GClause) : Option Bool :=
  (plaws_szClause k d347_ 1048576).bind fun b348_ =>
  if (decide (b348_ < 0)) = true then
    some true
  else
    (plaws_toClause k d347_).bind fun d349_ =>
    (pspec_CodeOf k d349_).bind fun s350_ =>
    (plaws_toClause_d k d347_).bind fun d351_ =>
    (pimpl_CodeOf_d k d351_).bind fun s352_ =>
    (plaws_eqCode k (GCode.mk s352_.1.gHead s352_.1.gBody s352_.1.gVars) (GCode.mk s350_.1.gHead s350_.1.gBody s350_.1.gVars)).bind fun f353_ =>
    if (!f353_) = true then
      some false
    else
      if (!(s352_.2 == s350_.2)) = true then
        some false
      else
        (plaws_toClause k d347_).bind fun d354_ =>
        (plaws_eqClause k d351_ d354_).bind fun f355_ =>
        if (!f355_) = true then
          some false
        else
          (plaws_markClause k d351_ 1).bind fun t356_ =>
          if (decide (t356_.2 < 0)) = true then
            some false
          else
            (plaws_eqCode k (GCode.mk s352_.1.gHead s352_.1.gBody s352_.1.gVars) (GCode.mk s350_.1.gHead s350_.1.gBody s350_.1.gVars)).bind fun f357_ =>
            if (!f357_) = true then
              some false
            else
              if (!(s352_.2 == s350_.2)) = true then
                some false
              else
                (plaws_markCode k (GCode.mk s352_.1.gHead s352_.1.gBody s352_.1.gVars) 1).bind fun u358_ =>
                (plaws_heldCode k (GCode.mk u358_.1.gHead u358_.1.gBody s352_.1.gVars) 1).bind fun b359_ =>
                if (decide (b359_ < 0)) = true then
                  some false
                else
                  if (b359_ != u358_.2) = true then
                    some false
                  else
                    (plaws_toClause k d347_).bind fun d360_ =>
                    (pimpl_CodeOf k d360_).bind fun s361_ =>
                    (plaws_eqCode k (GCode.mk s361_.1.gHead s361_.1.gBody s361_.1.gVars) (GCode.mk s350_.1.gHead s350_.1.gBody s350_.1.gVars)).bind fun f362_ =>
                    if (!f362_) = true then
                      some false
                    else
                      if (!(s361_.2 == s350_.2)) = true then
                        some false
                      else
                        (plaws_heldCode k (GCode.mk u358_.1.gHead u358_.1.gBody s352_.1.gVars) 1).bind fun b363_ =>
                        if (decide (b363_ < 0)) = true then
                          some false
                        else
                          if (b363_ != u358_.2) = true then
                            some false
                          else
                            some true
theorem claws_FnExactCodeOf {k : Nat} {d347_ : GClause} {r : Bool} (h : plaws_FnExactCodeOf k d347_ = some r) : FnO Try.prog 5 [.v (.agg [.int .i64 d347_.gHead.gKind, .str d347_.gHead.gName, .int .i64 d347_.gHead.gNum, .sl (List.map GTerm.c d347_.gHead.gKids), .int .i64 d347_.gBody.gKind, .str d347_.gBody.gName, .int .i64 d347_.gBody.gNum, .sl (List.map GTerm.c d347_.gBody.gKids), .str d347_.gFile]) []] (.v (.bool r) []) [] := by
  refine FnO.of Try.func5 (rfl : Try.f5.body = some _) (Nat.le_of_ble_eq_true (by kernel_rfl)) (Nat.le_of_ble_eq_true (by kernel_rfl)) ?_
  intro w0 X0 Fin pv0 pb
  unfold plaws_FnExactCodeOf at h
  refine Wc.seq ?_
  refine Wc.region [] [] [1] [1] [] ⟨[(1, (.ptr 1 0, []))], [(1, .cells [.int .i64 d347_.gHead.gKind, .str d347_.gHead.gName, .int .i64 d347_.gHead.gNum, .sl (List.map GTerm.c d347_.gHead.gKids), .int .i64 d347_.gBody.gKind, .str d347_.gBody.gName, .int .i64 d347_.gBody.gNum, .sl (List.map GTerm.c d347_.gBody.gKids), .str d347_.gFile] [])], []⟩ _ (by kernel_rfl) .nil ?_
  refine Wc.seq ?_
  refine Wc.region [] [] [1, 3] [1] [] ⟨[(1, (.ptr 1 0, [])), (3, (.v (.int .i64 1048576), []))], [(1, .cells [.int .i64 d347_.gHead.gKind, .str d347_.gHead.gName, .int .i64 d347_.gHead.gNum, .sl (List.map GTerm.c d347_.gHead.gKids), .int .i64 d347_.gBody.gKind, .str d347_.gBody.gName, .int .i64 d347_.gBody.gNum, .sl (List.map GTerm.c d347_.gBody.gKids), .str d347_.gFile] [])], []⟩ _ (by kernel_rfl) .nil ?_
  refine Wc.seq ?_
  obtain ⟨b348_, h366, h⟩ := obind h
  refine Wc.region [{}, {}, { r := some (.v (.int .i64 b348_) []) }] [] [1, 3] [1] [] ⟨[(1, (.ptr 1 0, [])), (3, (.v (.int .i64 b348_), []))], [(1, .cells [.int .i64 d347_.gHead.gKind, .str d347_.gHead.gName, .int .i64 d347_.gHead.gNum, .sl (List.map GTerm.c d347_.gHead.gKids), .int .i64 d347_.gBody.gKind, .str d347_.gBody.gName, .int .i64 d347_.gBody.gNum, .sl (List.map GTerm.c d347_.gBody.gKids), .str d347_.gFile] [])], []⟩ _ (by kernel_rfl) (.cons (claws_szClause h366) .nil) ?_
  refine Wc.seq ?_
  refine Wc.seq ?_
  refine Wc.region [] [] [1, 18] [1] [] ⟨[(1, (.ptr 1 0, [])), (18, (.v (.bool (decide (b348_ < 0))), []))], [(1, .cells [.int .i64 d347_.gHead.gKind, .str d347_.gHead.gName, .int .i64 d347_.gHead.gNum, .sl (List.map GTerm.c d347_.gHead.gKids), .int .i64 d347_.gBody.gKind, .str d347_.gBody.gName, .int .i64 d347_.gBody.gNum, .sl (List.map GTerm.c d347_.gBody.gKids), .str d347_.gFile] [])], []⟩ _ (by kernel_rfl) .nil ?_
  rcases oif h with ⟨h367, h⟩ | ⟨h367, h⟩
  · refine Wc.condT h367 (by kernel_rfl) ?_
    refine Wc.seq ?_
    refine Wc.region [] [] [2] [] [] ⟨[(2, (.v (.bool true), []))], [], []⟩ _ (by kernel_rfl) .nil ?_
    refine Wc.ret ?_
    obtain rfl := Option.some.inj h
    exact ⟨.inl rfl, by kernel_rfl, by kernel_rfl⟩
  · refine Wc.condF h367 (by kernel_rfl) ?_
    refine Wc.fix (st' := ⟨[(1, (.ptr 1 0, []))], [(1, .cells [.int .i64 d347_.gHead.gKind, .str d347_.gHead.gName, .int .i64 d347_.gHead.gNum, .sl (List.map GTerm.c d347_.gHead.gKids), .int .i64 d347_.gBody.gKind, .str d347_.gBody.gName, .int .i64 d347_.gBody.gNum, .sl (List.map GTerm.c d347_.gBody.gKids), .str d347_.gFile] [])], []⟩) [] [1] [1] [] (by kernel_rfl) ?_
    refine Wc.skip ?_
    refine Wc.seq ?_
    obtain ⟨d349_, h368, h⟩ := obind h
    obtain ⟨s350_, h369, h⟩ := obind h
    refine Wc.region [{}, { r := some (.v (.agg [.int .i64 d349_.gHead.gKind, .str d349_.gHead.gName, .int .i64 d349_.gHead.gNum, .sl (List.map GTerm.c d349_.gHead.gKids), .int .i64 d349_.gBody.gKind, .str d349_.gBody.gName, .int .i64 d349_.gBody.gNum, .sl (List.map GTerm.c d349_.gBody.gKids), .str d349_.gFile]) []) }, { r := some (.v (.tup [.agg [.sl (List.map GIns.c s350_.1.gHead), .sl (List.map GIns.c s350_.1.gBody), .int .i64 s350_.1.gVars], .bool s350_.2]) []) }] [] [1, 4, 5] [1, 4] [] ⟨[(1, (.ptr 1 0, [])), (4, (.ptr 4 0, [])), (5, (.v (.bool s350_.2), []))], [(1, .cells [.int .i64 d347_.gHead.gKind, .str d347_.gHead.gName, .int .i64 d347_.gHead.gNum, .sl (List.map GTerm.c d347_.gHead.gKids), .int .i64 d347_.gBody.gKind, .str d347_.gBody.gName, .int .i64 d347_.gBody.gNum, .sl (List.map GTerm.c d347_.gBody.gKids), .str d347_.gFile] []), (4, .cells [.sl (List.map GIns.c s350_.1.gHead), .sl (List.map GIns.c s350_.1.gBody), .int .i64 s350_.1.gVars] [])], []⟩ _ (by kernel_rfl) (.cons (claws_toClause h368) (.cons (cspec_CodeOf h369) .nil)) ?_
    refine Wc.seq ?_
    obtain ⟨d351_, h370, h⟩ := obind h
    refine Wc.region [{}, { r := some (.v (.agg [.int .i64 d351_.gHead.gKind, .str d351_.gHead.gName, .int .i64 d351_.gHead.gNum, .slx, .int .i64 d351_.gBody.gKind, .str d351_.gBody.gName, .int .i64 d351_.gBody.gNum, .slx, .str d351_.gFile]) [(3, .ex 42 true (List.map GTerm.c d351_.gHead.gKids)), (7, .ex 42 true (List.map GTerm.c d351_.gBody.gKids))]) }, {}, { tk := [26] }] [] [1, 4, 5, 6] [1, 4, 6] [] ⟨[(1, (.ptr 1 0, [])), (4, (.ptr 4 0, [])), (5, (.v (.bool s350_.2), [])), (6, (.ptr 6 0, []))], [(1, .cells [.int .i64 d347_.gHead.gKind, .str d347_.gHead.gName, .int .i64 d347_.gHead.gNum, .sl (List.map GTerm.c d347_.gHead.gKids), .int .i64 d347_.gBody.gKind, .str d347_.gBody.gName, .int .i64 d347_.gBody.gNum, .sl (List.map GTerm.c d347_.gBody.gKids), .str d347_.gFile] []), (4, .cells [.sl (List.map GIns.c s350_.1.gHead), .sl (List.map GIns.c s350_.1.gBody), .int .i64 s350_.1.gVars] []), (6, .cells [.int .i64 d351_.gHead.gKind, .str d351_.gHead.gName, .int .i64 d351_.gHead.gNum, .slx, .int .i64 d351_.gBody.gKind, .str d351_.gBody.gName, .int .i64 d351_.gBody.gNum, .slx, .str d351_.gFile] [(3, .ex 42 true (List.map GTerm.c d351_.gHead.gKids)), (7, .ex 42 true (List.map GTerm.c d351_.gBody.gKids))])], []⟩ _ (by kernel_rfl) (.cons (claws_toClause_d h370) .nil) ?_
    refine Wc.seq ?_
    obtain ⟨s352_, h371, h⟩ := obind h
    refine Wc.region [{}, { r := some (.v (.tup [.agg [.slx, .slx, .int .i64 s352_.1.gVars], .bool s352_.2]) [(0, .ex 158 true (List.map GIns.c s352_.1.gHead)), (1, .ex 158 true (List.map GIns.c s352_.1.gBody))]) }, { tk := [29] }, { tk := [27] }, {}, {}, { tk := [30] }] [] [1, 4, 5, 6, 7, 8] [1, 4, 6, 7] [] ⟨[(1, (.ptr 1 0, [])), (4, (.ptr 4 0, [])), (5, (.v (.bool s350_.2), [])), (6, (.ptr 6 0, [])), (7, (.ptr 7 0, [])), (8, (.v (.bool s352_.2), []))], [(1, .cells [.int .i64 d347_.gHead.gKind, .str d347_.gHead.gName, .int .i64 d347_.gHead.gNum, .sl (List.map GTerm.c d347_.gHead.gKids), .int .i64 d347_.gBody.gKind, .str d347_.gBody.gName, .int .i64 d347_.gBody.gNum, .sl (List.map GTerm.c d347_.gBody.gKids), .str d347_.gFile] []), (4, .cells [.sl (List.map GIns.c s350_.1.gHead), .sl (List.map GIns.c s350_.1.gBody), .int .i64 s350_.1.gVars] []), (6, .cells [.int .i64 d351_.gHead.gKind, .str d351_.gHead.gName, .int .i64 d351_.gHead.gNum, .slx, .int .i64 d351_.gBody.gKind, .str d351_.gBody.gName, .int .i64 d351_.gBody.gNum, .slx, .str d351_.gFile] [(3, .ex 42 true (List.map GTerm.c d351_.gHead.gKids)), (7, .ex 42 true (List.map GTerm.c d351_.gBody.gKids))]), (7, .cells [.slx, .slx, .int .i64 s352_.1.gVars] [(0, .ex 158 true (List.map GIns.c s352_.1.gHead)), (1, .ex 158 true (List.map GIns.c s352_.1.gBody))])], []⟩ _ (by kernel_rfl) (.cons (cimpl_CodeOf_d h371) .nil) ?_
    refine Wc.seq ?_
    refine Wc.seq ?_
    obtain ⟨f353_, h372, h⟩ := obind h
    rcases oif h with ⟨h373, h⟩ | ⟨h373, h⟩
    · refine Wc.region [{}, {}, { r := some (.v (.bool f353_) []) }, {}, { re := some (.bool true) }] [] [1, 4, 5, 6, 7, 8, 40] [1, 4, 6, 7] [] ⟨[(1, (.ptr 1 0, [])), (4, (.ptr 4 0, [])), (5, (.v (.bool s350_.2), [])), (6, (.ptr 6 0, [])), (7, (.ptr 7 0, [])), (8, (.v (.bool s352_.2), [])), (40, (.v (.bool true), []))], [(1, .cells [.int .i64 d347_.gHead.gKind, .str d347_.gHead.gName, .int .i64 d347_.gHead.gNum, .sl (List.map GTerm.c d347_.gHead.gKids), .int .i64 d347_.gBody.gKind, .str d347_.gBody.gName, .int .i64 d347_.gBody.gNum, .sl (List.map GTerm.c d347_.gBody.gKids), .str d347_.gFile] []), (4, .cells [.sl (List.map GIns.c s350_.1.gHead), .sl (List.map GIns.c s350_.1.gBody), .int .i64 s350_.1.gVars] []), (6, .cells [.int .i64 d351_.gHead.gKind, .str d351_.gHead.gName, .int .i64 d351_.gHead.gNum, .slx, .int .i64 d351_.gBody.gKind, .str d351_.gBody.gName, .int .i64 d351_.gBody.gNum, .slx, .str d351_.gFile] [(3, .ex 42 true (List.map GTerm.c d351_.gHead.gKids)), (7, .ex 42 true (List.map GTerm.c d351_.gBody.gKids))]), (7, .cells [.slx, .slx, .int .i64 s352_.1.gVars] [(0, .ex 158 true (List.map GIns.c s352_.1.gHead)), (1, .ex 158 true (List.map GIns.c s352_.1.gBody))])], []⟩ _ (by kernel_rfl) (.cons (claws_eqCode h372) (.cons (congrArg AV.bool h373) .nil)) ?_
      refine Wc.condT rfl (by kernel_rfl) ?_
      refine Wc.seq ?_
      refine Wc.region [] [] [2] [] [] ⟨[(2, (.v (.bool false), []))], [], []⟩ _ (by kernel_rfl) .nil ?_
      refine Wc.ret ?_
      obtain rfl := Option.some.inj h
      exact ⟨.inl rfl, by kernel_rfl, by kernel_rfl⟩
    · refine Wc.region [{}, {}, { r := some (.v (.bool f353_) []) }, {}, { re := some (.bool false) }] [] [1, 4, 5, 6, 7, 8, 40] [1, 4, 6, 7] [] ⟨[(1, (.ptr 1 0, [])), (4, (.ptr 4 0, [])), (5, (.v (.bool s350_.2), [])), (6, (.ptr 6 0, [])), (7, (.ptr 7 0, [])), (8, (.v (.bool s352_.2), [])), (40, (.v (.bool (!(s352_.2 == s350_.2))), []))], [(1, .cells [.int .i64 d347_.gHead.gKind, .str d347_.gHead.gName, .int .i64 d347_.gHead.gNum, .sl (List.map GTerm.c d347_.gHead.gKids), .int .i64 d347_.gBody.gKind, .str d347_.gBody.gName, .int .i64 d347_.gBody.gNum, .sl (List.map GTerm.c d347_.gBody.gKids), .str d347_.gFile] []), (4, .cells [.sl (List.map GIns.c s350_.1.gHead), .sl (List.map GIns.c s350_.1.gBody), .int .i64 s350_.1.gVars] []), (6, .cells [.int .i64 d351_.gHead.gKind, .str d351_.gHead.gName, .int .i64 d351_.gHead.gNum, .slx, .int .i64 d351_.gBody.gKind, .str d351_.gBody.gName, .int .i64 d351_.gBody.gNum, .slx, .str d351_.gFile] [(3, .ex 42 true (List.map GTerm.c d351_.gHead.gKids)), (7, .ex 42 true (List.map GTerm.c d351_.gBody.gKids))]), (7, .cells [.slx, .slx, .int .i64 s352_.1.gVars] [(0, .ex 158 true (List.map GIns.c s352_.1.gHead)), (1, .ex 158 true (List.map GIns.c s352_.1.gBody))])], []⟩ _ (by kernel_rfl) (.cons (claws_eqCode h372) (.cons (congrArg AV.bool h373) .nil)) ?_
      rcases oif h with ⟨h374, h⟩ | ⟨h374, h⟩
      · refine Wc.condT h374 (by kernel_rfl) ?_
        refine Wc.seq ?_
        refine Wc.region [] [] [2] [] [] ⟨[(2, (.v (.bool false), []))], [], []⟩ _ (by kernel_rfl) .nil ?_
        refine Wc.ret ?_
        obtain rfl := Option.some.inj h
        exact ⟨.inl rfl, by kernel_rfl, by kernel_rfl⟩
      · refine Wc.condF h374 (by kernel_rfl) ?_
        refine Wc.fix (st' := ⟨[(1, (.ptr 1 0, [])), (4, (.ptr 4 0, [])), (5, (.v (.bool s350_.2), [])), (6, (.ptr 6 0, [])), (7, (.ptr 7 0, [])), (8, (.v (.bool s352_.2), []))], [(1, .cells [.int .i64 d347_.gHead.gKind, .str d347_.gHead.gName, .int .i64 d347_.gHead.gNum, .sl (List.map GTerm.c d347_.gHead.gKids), .int .i64 d347_.gBody.gKind, .str d347_.gBody.gName, .int .i64 d347_.gBody.gNum, .sl (List.map GTerm.c d347_.gBody.gKids), .str d347_.gFile] []), (4, .cells [.sl (List.map GIns.c s350_.1.gHead), .sl (List.map GIns.c s350_.1.gBody), .int .i64 s350_.1.gVars] []), (6, .cells [.int .i64 d351_.gHead.gKind, .str d351_.gHead.gName, .int .i64 d351_.gHead.gNum, .slx, .int .i64 d351_.gBody.gKind, .str d351_.gBody.gName, .int .i64 d351_.gBody.gNum, .slx, .str d351_.gFile] [(3, .ex 42 true (List.map GTerm.c d351_.gHead.gKids)), (7, .ex 42 true (List.map GTerm.c d351_.gBody.gKids))]), (7, .cells [.slx, .slx, .int .i64 s352_.1.gVars] [(0, .ex 158 true (List.map GIns.c s352_.1.gHead)), (1, .ex 158 true (List.map GIns.c s352_.1.gBody))])], []⟩) [] [1, 4, 5, 6, 7, 8] [1, 4, 6, 7] [] (by kernel_rfl) ?_
        refine Wc.skip ?_
        refine Wc.seq ?_
        refine Wc.seq ?_
        obtain ⟨d354_, h375, h⟩ := obind h
        obtain ⟨f355_, h376, h⟩ := obind h
        refine Wc.draw hmix [{}, {}, { r := some (.v (.agg [.int .i64 d354_.gHead.gKind, .str d354_.gHead.gName, .int .i64 d354_.gHead.gNum, .sl (List.map GTerm.c d354_.gHead.gKids), .int .i64 d354_.gBody.gKind, .str d354_.gBody.gName, .int .i64 d354_.gBody.gNum, .sl (List.map GTerm.c d354_.gBody.gKids), .str d354_.gFile]) []) }, { r := some (.v (.bool f355_) []) }] [] [1, 4, 5, 6, 7, 8, 45] [1, 4, 6, 7] [] ⟨[(1, (.ptr 1 0, [])), (4, (.ptr 4 0, [])), (5, (.v (.bool s350_.2), [])), (6, (.ptr 6 0, [])), (7, (.ptr 7 0, [])), (8, (.v (.bool s352_.2), [])), (45, (.v (.bool (!f355_)), []))], [(1, .cells [.int .i64 d347_.gHead.gKind, .str d347_.gHead.gName, .int .i64 d347_.gHead.gNum, .sl (List.map GTerm.c d347_.gHead.gKids), .int .i64 d347_.gBody.gKind, .str d347_.gBody.gName, .int .i64 d347_.gBody.gNum, .sl (List.map GTerm.c d347_.gBody.gKids), .str d347_.gFile] []), (4, .cells [.sl (List.map GIns.c s350_.1.gHead), .sl (List.map GIns.c s350_.1.gBody), .int .i64 s350_.1.gVars] []), (6, .cells [.int .i64 d351_.gHead.gKind, .str d351_.gHead.gName, .int .i64 d351_.gHead.gNum, .slx, .int .i64 d351_.gBody.gKind, .str d351_.gBody.gName, .int .i64 d351_.gBody.gNum, .slx, .str d351_.gFile] [(3, .ex 42 true (List.map GTerm.c d351_.gHead.gKids)), (7, .ex 42 true (List.map GTerm.c d351_.gBody.gKids))]), (7, .cells [.slx, .slx, .int .i64 s352_.1.gVars] [(0, .ex 158 true (List.map GIns.c s352_.1.gHead)), (1, .ex 158 true (List.map GIns.c s352_.1.gBody))])], []⟩ _ (by kernel_rfl) (fun X => by kernel_rfl) (.cons (claws_toClause h375) (.cons (claws_eqClause h376) .nil)) ?_
        rcases oif h with ⟨h377, h⟩ | ⟨h377, h⟩
        · refine Wc.condT h377 (by kernel_rfl) ?_
          refine Wc.seq ?_
          refine Wc.region [] [] [2] [] [] ⟨[(2, (.v (.bool false), []))], [], []⟩ _ (by kernel_rfl) .nil ?_
          refine Wc.ret ?_
          obtain rfl := Option.some.inj h
          exact ⟨.inl rfl, by kernel_rfl, by kernel_rfl⟩
        · refine Wc.condF h377 (by kernel_rfl) ?_
          refine Wc.fix (st' := ⟨[(1, (.ptr 1 0, [])), (4, (.ptr 4 0, [])), (5, (.v (.bool s350_.2), [])), (6, (.ptr 6 0, [])), (7, (.ptr 7 0, [])), (8, (.v (.bool s352_.2), []))], [(1, .cells [.int .i64 d347_.gHead.gKind, .str d347_.gHead.gName, .int .i64 d347_.gHead.gNum, .sl (List.map GTerm.c d347_.gHead.gKids), .int .i64 d347_.gBody.gKind, .str d347_.gBody.gName, .int .i64 d347_.gBody.gNum, .sl (List.map GTerm.c d347_.gBody.gKids), .str d347_.gFile] []), (4, .cells [.sl (List.map GIns.c s350_.1.gHead), .sl (List.map GIns.c s350_.1.gBody), .int .i64 s350_.1.gVars] []), (6, .cells [.int .i64 d351_.gHead.gKind, .str d351_.gHead.gName, .int .i64 d351_.gHead.gNum, .slx, .int .i64 d351_.gBody.gKind, .str d351_.gBody.gName, .int .i64 d351_.gBody.gNum, .slx, .str d351_.gFile] [(3, .ex 42 true (List.map GTerm.c d351_.gHead.gKids)), (7, .ex 42 true (List.map GTerm.c d351_.gBody.gKids))]), (7, .cells [.slx, .slx, .int .i64 s352_.1.gVars] [(0, .ex 158 true (List.map GIns.c s352_.1.gHead)), (1, .ex 158 true (List.map GIns.c s352_.1.gBody))])], []⟩) [] [1, 4, 5, 6, 7, 8] [1, 4, 6, 7] [] (by kernel_rfl) ?_
          refine Wc.skip ?_
          refine Wc.seq ?_
          refine Wc.region [] [] [1, 4, 5, 6, 7, 8, 9] [1, 4, 6, 7] [] ⟨[(1, (.ptr 1 0, [])), (4, (.ptr 4 0, [])), (5, (.v (.bool s350_.2), [])), (6, (.ptr 6 0, [])), (7, (.ptr 7 0, [])), (8, (.v (.bool s352_.2), [])), (9, (.v (.int .i64 1), []))], [(1, .cells [.int .i64 d347_.gHead.gKind, .str d347_.gHead.gName, .int .i64 d347_.gHead.gNum, .sl (List.map GTerm.c d347_.gHead.gKids), .int .i64 d347_.gBody.gKind, .str d347_.gBody.gName, .int .i64 d347_.gBody.gNum, .sl (List.map GTerm.c d347_.gBody.gKids), .str d347_.gFile] []), (4, .cells [.sl (List.map GIns.c s350_.1.gHead), .sl (List.map GIns.c s350_.1.gBody), .int .i64 s350_.1.gVars] []), (6, .cells [.int .i64 d351_.gHead.gKind, .str d351_.gHead.gName, .int .i64 d351_.gHead.gNum, .slx, .int .i64 d351_.gBody.gKind, .str d351_.gBody.gName, .int .i64 d351_.gBody.gNum, .slx, .str d351_.gFile] [(3, .ex 42 true (List.map GTerm.c d351_.gHead.gKids)), (7, .ex 42 true (List.map GTerm.c d351_.gBody.gKids))]), (7, .cells [.slx, .slx, .int .i64 s352_.1.gVars] [(0, .ex 158 true (List.map GIns.c s352_.1.gHead)), (1, .ex 158 true (List.map GIns.c s352_.1.gBody))])], []⟩ _ (by kernel_rfl) .nil ?_
          refine Wc.seq ?_
          obtain ⟨t356_, h378, h⟩ := obind h
          refine Wc.region [{}, {}, { io := [0], r := some (.v (.int .i64 t356_.2) []), outs := [(0, .v .undef [(3, .ex 1000000007 true (List.map GTerm.c t356_.1.gHead.gKids)), (7, .ex 1000000007 true (List.map GTerm.c t356_.1.gBody.gKids))])] }] [] [1, 4, 5, 7, 8, 9] [1, 4, 7] [] ⟨[(1, (.ptr 1 0, [])), (4, (.ptr 4 0, [])), (5, (.v (.bool s350_.2), [])), (7, (.ptr 7 0, [])), (8, (.v (.bool s352_.2), [])), (9, (.v (.int .i64 t356_.2), []))], [(1, .cells [.int .i64 d347_.gHead.gKind, .str d347_.gHead.gName, .int .i64 d347_.gHead.gNum, .sl (List.map GTerm.c d347_.gHead.gKids), .int .i64 d347_.gBody.gKind, .str d347_.gBody.gName, .int .i64 d347_.gBody.gNum, .sl (List.map GTerm.c d347_.gBody.gKids), .str d347_.gFile] []), (4, .cells [.sl (List.map GIns.c s350_.1.gHead), .sl (List.map GIns.c s350_.1.gBody), .int .i64 s350_.1.gVars] []), (7, .cells [.slx, .slx, .int .i64 s352_.1.gVars] [(0, .ex 158 true (List.map GIns.c s352_.1.gHead)), (1, .ex 158 true (List.map GIns.c s352_.1.gBody))])], []⟩ _ (by kernel_rfl) (.cons (FnO.any (args := [.io (.agg [.int .i64 d351_.gHead.gKind, .str d351_.gHead.gName, .int .i64 d351_.gHead.gNum, .slx, .int .i64 d351_.gBody.gKind, .str d351_.gBody.gName, .int .i64 d351_.gBody.gNum, .slx, .str d351_.gFile]) [(3, .ex 42 true (List.map GTerm.c d351_.gHead.gKids)), (7, .ex 42 true (List.map GTerm.c d351_.gBody.gKids))], .v (.int .i64 1) []]) (claws_markClause h378)) .nil) ?_
          refine Wc.seq ?_
          refine Wc.seq ?_
          rcases oif h with ⟨h379, h⟩ | ⟨h379, h⟩
          · refine Wc.region [{}, {}, { re := some (.bool true) }] [] [1, 4, 5, 7, 61] [1, 4, 7] [] ⟨[(1, (.ptr 1 0, [])), (4, (.ptr 4 0, [])), (5, (.v (.bool s350_.2), [])), (7, (.ptr 7 0, [])), (61, (.v (.bool true), []))], [(1, .cells [.int .i64 d347_.gHead.gKind, .str d347_.gHead.gName, .int .i64 d347_.gHead.gNum, .sl (List.map GTerm.c d347_.gHead.gKids), .int .i64 d347_.gBody.gKind, .str d347_.gBody.gName, .int .i64 d347_.gBody.gNum, .sl (List.map GTerm.c d347_.gBody.gKids), .str d347_.gFile] []), (4, .cells [.sl (List.map GIns.c s350_.1.gHead), .sl (List.map GIns.c s350_.1.gBody), .int .i64 s350_.1.gVars] []), (7, .cells [.slx, .slx, .int .i64 s352_.1.gVars] [(0, .ex 158 true (List.map GIns.c s352_.1.gHead)), (1, .ex 158 true (List.map GIns.c s352_.1.gBody))])], []⟩ _ (by kernel_rfl) (.cons (congrArg AV.bool h379) .nil) ?_
            refine Wc.condT rfl (by kernel_rfl) ?_
            refine Wc.seq ?_
            refine Wc.region [] [] [2] [] [] ⟨[(2, (.v (.bool false), []))], [], []⟩ _ (by kernel_rfl) .nil ?_
            refine Wc.ret ?_
            obtain rfl := Option.some.inj h
            exact ⟨.inl rfl, by kernel_rfl, by kernel_rfl⟩
          · obtain ⟨f357_, h380, h⟩ := obind h
            rcases oif h with ⟨h381, h⟩ | ⟨h381, h⟩
            · refine Wc.region [{}, {}, { re := some (.bool false) }, {}, {}, { r := some (.v (.bool f357_) []) }, {}, {}, { re := some (.bool true) }] [] [1, 4, 5, 7, 61] [1, 4, 7] [] ⟨[(1, (.ptr 1 0, [])), (4, (.ptr 4 0, [])), (5, (.v (.bool s350_.2), [])), (7, (.ptr 7 0, [])), (61, (.v (.bool true), []))], [(1, .cells [.int .i64 d347_.gHead.gKind, .str d347_.gHead.gName, .int .i64 d347_.gHead.gNum, .sl (List.map GTerm.c d347_.gHead.gKids), .int .i64 d347_.gBody.gKind, .str d347_.gBody.gName, .int .i64 d347_.gBody.gNum, .sl (List.map GTerm.c d347_.gBody.gKids), .str d347_.gFile] []), (4, .cells [.sl (List.map GIns.c s350_.1.gHead), .sl (List.map GIns.c s350_.1.gBody), .int .i64 s350_.1.gVars] []), (7, .cells [.slx, .slx, .int .i64 s352_.1.gVars] [(0, .ex 158 true (List.map GIns.c s352_.1.gHead)), (1, .ex 158 true (List.map GIns.c s352_.1.gBody))])], []⟩ _ (by kernel_rfl) (.cons (congrArg AV.bool h379) (.cons (claws_eqCode h380) (.cons (congrArg AV.bool h381) .nil))) ?_
              refine Wc.condT rfl (by kernel_rfl) ?_
              refine Wc.seq ?_
              refine Wc.region [] [] [2] [] [] ⟨[(2, (.v (.bool false), []))], [], []⟩ _ (by kernel_rfl) .nil ?_
              refine Wc.ret ?_
              obtain rfl := Option.some.inj h
              exact ⟨.inl rfl, by kernel_rfl, by kernel_rfl⟩
            · refine Wc.region [{}, {}, { re := some (.bool false) }, {}, {}, { r := some (.v (.bool f357_) []) }, {}, {}, { re := some (.bool false) }] [] [1, 4, 5, 7, 61] [1, 4, 7] [] ⟨[(1, (.ptr 1 0, [])), (4, (.ptr 4 0, [])), (5, (.v (.bool s350_.2), [])), (7, (.ptr 7 0, [])), (61, (.v (.bool (!(s352_.2 == s350_.2))), []))], [(1, .cells [.int .i64 d347_.gHead.gKind, .str d347_.gHead.gName, .int .i64 d347_.gHead.gNum, .sl (List.map GTerm.c d347_.gHead.gKids), .int .i64 d347_.gBody.gKind, .str d347_.gBody.gName, .int .i64 d347_.gBody.gNum, .sl (List.map GTerm.c d347_.gBody.gKids), .str d347_.gFile] []), (4, .cells [.sl (List.map GIns.c s350_.1.gHead), .sl (List.map GIns.c s350_.1.gBody), .int .i64 s350_.1.gVars] []), (7, .cells [.slx, .slx, .int .i64 s352_.1.gVars] [(0, .ex 158 true (List.map GIns.c s352_.1.gHead)), (1, .ex 158 true (List.map GIns.c s352_.1.gBody))])], []⟩ _ (by kernel_rfl) (.cons (congrArg AV.bool h379) (.cons (claws_eqCode h380) (.cons (congrArg AV.bool h381) .nil))) ?_
              rcases oif h with ⟨h382, h⟩ | ⟨h382, h⟩
              · refine Wc.condT h382 (by kernel_rfl) ?_
                refine Wc.seq ?_
                refine Wc.region [] [] [2] [] [] ⟨[(2, (.v (.bool false), []))], [], []⟩ _ (by kernel_rfl) .nil ?_
                refine Wc.ret ?_
                obtain rfl := Option.some.inj h
                exact ⟨.inl rfl, by kernel_rfl, by kernel_rfl⟩
              · refine Wc.condF h382 (by kernel_rfl) ?_
                refine Wc.fix (st' := ⟨[(1, (.ptr 1 0, [])), (4, (.ptr 4 0, [])), (5, (.v (.bool s350_.2), [])), (7, (.ptr 7 0, []))], [(1, .cells [.int .i64 d347_.gHead.gKind, .str d347_.gHead.gName, .int .i64 d347_.gHead.gNum, .sl (List.map GTerm.c d347_.gHead.gKids), .int .i64 d347_.gBody.gKind, .str d347_.gBody.gName, .int .i64 d347_.gBody.gNum, .sl (List.map GTerm.c d347_.gBody.gKids), .str d347_.gFile] []), (4, .cells [.sl (List.map GIns.c s350_.1.gHead), .sl (List.map GIns.c s350_.1.gBody), .int .i64 s350_.1.gVars] []), (7, .cells [.slx, .slx, .int .i64 s352_.1.gVars] [(0, .ex 158 true (List.map GIns.c s352_.1.gHead)), (1, .ex 158 true (List.map GIns.c s352_.1.gBody))])], []⟩) [] [1, 4, 5, 7] [1, 4, 7] [] (by kernel_rfl) ?_
                refine Wc.skip ?_
                refine Wc.seq ?_
                refine Wc.region [] [] [1, 4, 5, 7, 10] [1, 4, 7] [] ⟨[(1, (.ptr 1 0, [])), (4, (.ptr 4 0, [])), (5, (.v (.bool s350_.2), [])), (7, (.ptr 7 0, [])), (10, (.v (.int .i64 1), []))], [(1, .cells [.int .i64 d347_.gHead.gKind, .str d347_.gHead.gName, .int .i64 d347_.gHead.gNum, .sl (List.map GTerm.c d347_.gHead.gKids), .int .i64 d347_.gBody.gKind, .str d347_.gBody.gName, .int .i64 d347_.gBody.gNum, .sl (List.map GTerm.c d347_.gBody.gKids), .str d347_.gFile] []), (4, .cells [.sl (List.map GIns.c s350_.1.gHead), .sl (List.map GIns.c s350_.1.gBody), .int .i64 s350_.1.gVars] []), (7, .cells [.slx, .slx, .int .i64 s352_.1.gVars] [(0, .ex 158 true (List.map GIns.c s352_.1.gHead)), (1, .ex 158 true (List.map GIns.c s352_.1.gBody))])], []⟩ _ (by kernel_rfl) .nil ?_
                refine Wc.seq ?_
                obtain ⟨u358_, h383, h⟩ := obind h
                refine Wc.region [{}, {}, { io := [0], r := some (.v (.int .i64 u358_.2) []), outs := [(0, .v .undef [(0, .ex 1000000007 true (List.map GIns.c u358_.1.gHead)), (1, .ex 1000000007 true (List.map GIns.c u358_.1.gBody))])] }] [] [1, 4, 5, 7, 10] [1, 4, 7] [] ⟨[(1, (.ptr 1 0, [])), (4, (.ptr 4 0, [])), (5, (.v (.bool s350_.2), [])), (7, (.ptr 7 0, [])), (10, (.v (.int .i64 u358_.2), []))], [(1, .cells [.int .i64 d347_.gHead.gKind, .str d347_.gHead.gName, .int .i64 d347_.gHead.gNum, .sl (List.map GTerm.c d347_.gHead.gKids), .int .i64 d347_.gBody.gKind, .str d347_.gBody.gName, .int .i64 d347_.gBody.gNum, .sl (List.map GTerm.c d347_.gBody.gKids), .str d347_.gFile] []), (4, .cells [.sl (List.map GIns.c s350_.1.gHead), .sl (List.map GIns.c s350_.1.gBody), .int .i64 s350_.1.gVars] []), (7, .cells [.slx, .slx, .int .i64 s352_.1.gVars] [(0, .ex 1000000007 true (List.map GIns.c u358_.1.gHead)), (1, .ex 1000000007 true (List.map GIns.c u358_.1.gBody))])], []⟩ _ (by kernel_rfl) (.cons (FnO.any (args := [.io (.agg [.slx, .slx, .int .i64 s352_.1.gVars]) [(0, .ex 158 true (List.map GIns.c s352_.1.gHead)), (1, .ex 158 true (List.map GIns.c s352_.1.gBody))], .v (.int .i64 1) []]) (claws_markCode h383)) .nil) ?_
                refine Wc.seq ?_
                refine Wc.region [] [] [1, 4, 5, 7, 10, 11] [1, 4, 7] [] ⟨[(1, (.ptr 1 0, [])), (4, (.ptr 4 0, [])), (5, (.v (.bool s350_.2), [])), (7, (.ptr 7 0, [])), (10, (.v (.int .i64 u358_.2), [])), (11, (.v (.int .i64 1), []))], [(1, .cells [.int .i64 d347_.gHead.gKind, .str d347_.gHead.gName, .int .i64 d347_.gHead.gNum, .sl (List.map GTerm.c d347_.gHead.gKids), .int .i64 d347_.gBody.gKind, .str d347_.gBody.gName, .int .i64 d347_.gBody.gNum, .sl (List.map GTerm.c d347_.gBody.gKids), .str d347_.gFile] []), (4, .cells [.sl (List.map GIns.c s350_.1.gHead), .sl (List.map GIns.c s350_.1.gBody), .int .i64 s350_.1.gVars] []), (7, .cells [.slx, .slx, .int .i64 s352_.1.gVars] [(0, .ex 1000000007 true (List.map GIns.c u358_.1.gHead)), (1, .ex 1000000007 true (List.map GIns.c u358_.1.gBody))])], []⟩ _ (by kernel_rfl) .nil ?_
                refine Wc.seq ?_
                obtain ⟨b359_, h384, h⟩ := obind h
                refine Wc.region [{}, {}, { r := some (.v (.int .i64 b359_) []) }] [] [1, 4, 5, 7, 10, 11] [1, 4, 7] [] ⟨[(1, (.ptr 1 0, [])), (4, (.ptr 4 0, [])), (5, (.v (.bool s350_.2), [])), (7, (.ptr 7 0, [])), (10, (.v (.int .i64 u358_.2), [])), (11, (.v (.int .i64 b359_), []))], [(1, .cells [.int .i64 d347_.gHead.gKind, .str d347_.gHead.gName, .int .i64 d347_.gHead.gNum, .sl (List.map GTerm.c d347_.gHead.gKids), .int .i64 d347_.gBody.gKind, .str d347_.gBody.gName, .int .i64 d347_.gBody.gNum, .sl (List.map GTerm.c d347_.gBody.gKids), .str d347_.gFile] []), (4, .cells [.sl (List.map GIns.c s350_.1.gHead), .sl (List.map GIns.c s350_.1.gBody), .int .i64 s350_.1.gVars] []), (7, .cells [.slx, .slx, .int .i64 s352_.1.gVars] [(0, .ex 1000000007 true (List.map GIns.c u358_.1.gHead)), (1, .ex 1000000007 true (List.map GIns.c u358_.1.gBody))])], []⟩ _ (by kernel_rfl) (.cons (claws_heldCode h384) .nil) ?_
                refine Wc.seq ?_
                refine Wc.seq ?_
                refine Wc.region [] [] [1, 4, 5, 7, 10, 11, 69] [1, 4, 7] [] ⟨[(1, (.ptr 1 0, [])), (4, (.ptr 4 0, [])), (5, (.v (.bool s350_.2), [])), (7, (.ptr 7 0, [])), (10, (.v (.int .i64 u358_.2), [])), (11, (.v (.int .i64 b359_), [])), (69, (.v (.bool (decide (b359_ < 0))), []))], [(1, .cells [.int .i64 d347_.gHead.gKind, .str d347_.gHead.gName, .int .i64 d347_.gHead.gNum, .sl (List.map GTerm.c d347_.gHead.gKids), .int .i64 d347_.gBody.gKind, .str d347_.gBody.gName, .int .i64 d347_.gBody.gNum, .sl (List.map GTerm.c d347_.gBody.gKids), .str d347_.gFile] []), (4, .cells [.sl (List.map GIns.c s350_.1.gHead), .sl (List.map GIns.c s350_.1.gBody), .int .i64 s350_.1.gVars] []), (7, .cells [.slx, .slx, .int .i64 s352_.1.gVars] [(0, .ex 1000000007 true (List.map GIns.c u358_.1.gHead)), (1, .ex 1000000007 true (List.map GIns.c u358_.1.gBody))])], []⟩ _ (by kernel_rfl) .nil ?_
                rcases oif h with ⟨h385, h⟩ | ⟨h385, h⟩
                · refine Wc.condT h385 (by kernel_rfl) ?_
                  refine Wc.seq ?_
                  refine Wc.region [] [] [2] [] [] ⟨[(2, (.v (.bool false), []))], [], []⟩ _ (by kernel_rfl) .nil ?_
                  refine Wc.ret ?_
                  obtain rfl := Option.some.inj h
                  exact ⟨.inl rfl, by kernel_rfl, by kernel_rfl⟩
                · refine Wc.condF h385 (by kernel_rfl) ?_
                  refine Wc.fix (st' := ⟨[(1, (.ptr 1 0, [])), (4, (.ptr 4 0, [])), (5, (.v (.bool s350_.2), [])), (7, (.ptr 7 0, [])), (10, (.v (.int .i64 u358_.2), [])), (11, (.v (.int .i64 b359_), []))], [(1, .cells [.int .i64 d347_.gHead.gKind, .str d347_.gHead.gName, .int .i64 d347_.gHead.gNum, .sl (List.map GTerm.c d347_.gHead.gKids), .int .i64 d347_.gBody.gKind, .str d347_.gBody.gName, .int .i64 d347_.gBody.gNum, .sl (List.map GTerm.c d347_.gBody.gKids), .str d347_.gFile] []), (4, .cells [.sl (List.map GIns.c s350_.1.gHead), .sl (List.map GIns.c s350_.1.gBody), .int .i64 s350_.1.gVars] []), (7, .cells [.slx, .slx, .int .i64 s352_.1.gVars] [(0, .ex 1000000007 true (List.map GIns.c u358_.1.gHead)), (1, .ex 1000000007 true (List.map GIns.c u358_.1.gBody))])], []⟩) [] [1, 4, 5, 7, 10, 11] [1, 4, 7] [] (by kernel_rfl) ?_
                  refine Wc.skip ?_
                  refine Wc.seq ?_
                  refine Wc.seq ?_
                  refine Wc.region [] [] [1, 4, 5, 7, 10, 72] [1, 4, 7] [] ⟨[(1, (.ptr 1 0, [])), (4, (.ptr 4 0, [])), (5, (.v (.bool s350_.2), [])), (7, (.ptr 7 0, [])), (10, (.v (.int .i64 u358_.2), [])), (72, (.v (.bool (b359_ != u358_.2)), []))], [(1, .cells [.int .i64 d347_.gHead.gKind, .str d347_.gHead.gName, .int .i64 d347_.gHead.gNum, .sl (List.map GTerm.c d347_.gHead.gKids), .int .i64 d347_.gBody.gKind, .str d347_.gBody.gName, .int .i64 d347_.gBody.gNum, .sl (List.map GTerm.c d347_.gBody.gKids), .str d347_.gFile] []), (4, .cells [.sl (List.map GIns.c s350_.1.gHead), .sl (List.map GIns.c s350_.1.gBody), .int .i64 s350_.1.gVars] []), (7, .cells [.slx, .slx, .int .i64 s352_.1.gVars] [(0, .ex 1000000007 true (List.map GIns.c u358_.1.gHead)), (1, .ex 1000000007 true (List.map GIns.c u358_.1.gBody))])], []⟩ _ (by kernel_rfl) .nil ?_
                  rcases oif h with ⟨h386, h⟩ | ⟨h386, h⟩
                  · refine Wc.condT h386 (by kernel_rfl) ?_
                    refine Wc.seq ?_
                    refine Wc.region [] [] [2] [] [] ⟨[(2, (.v (.bool false), []))], [], []⟩ _ (by kernel_rfl) .nil ?_
                    refine Wc.ret ?_
                    obtain rfl := Option.some.inj h
                    exact ⟨.inl rfl, by kernel_rfl, by kernel_rfl⟩
                  · refine Wc.condF h386 (by kernel_rfl) ?_
                    refine Wc.fix (st' := ⟨[(1, (.ptr 1 0, [])), (4, (.ptr 4 0, [])), (5, (.v (.bool s350_.2), [])), (7, (.ptr 7 0, [])), (10, (.v (.int .i64 u358_.2), []))], [(1, .cells [.int .i64 d347_.gHead.gKind, .str d347_.gHead.gName, .int .i64 d347_.gHead.gNum, .sl (List.map GTerm.c d347_.gHead.gKids), .int .i64 d347_.gBody.gKind, .str d347_.gBody.gName, .int .i64 d347_.gBody.gNum, .sl (List.map GTerm.c d347_.gBody.gKids), .str d347_.gFile] []), (4, .cells [.sl (List.map GIns.c s350_.1.gHead), .sl (List.map GIns.c s350_.1.gBody), .int .i64 s350_.1.gVars] []), (7, .cells [.slx, .slx, .int .i64 s352_.1.gVars] [(0, .ex 1000000007 true (List.map GIns.c u358_.1.gHead)), (1, .ex 1000000007 true (List.map GIns.c u358_.1.gBody))])], []⟩) [] [1, 4, 5, 7, 10] [1, 4, 7] [] (by kernel_rfl) ?_
                    refine Wc.skip ?_
                    refine Wc.seq ?_
                    obtain ⟨d360_, h387, h⟩ := obind h
                    obtain ⟨s361_, h388, h⟩ := obind h
                    refine Wc.region [{}, { r := some (.v (.agg [.int .i64 d360_.gHead.gKind, .str d360_.gHead.gName, .int .i64 d360_.gHead.gNum, .sl (List.map GTerm.c d360_.gHead.gKids), .int .i64 d360_.gBody.gKind, .str d360_.gBody.gName, .int .i64 d360_.gBody.gNum, .sl (List.map GTerm.c d360_.gBody.gKids), .str d360_.gFile]) []) }, { r := some (.v (.tup [.agg [.sl (List.map GIns.c s361_.1.gHead), .sl (List.map GIns.c s361_.1.gBody), .int .i64 s361_.1.gVars], .bool s361_.2]) [(0, .app 158), (1, .app 158)]) }, { tk := [76] }, { tk := [73] }, {}, {}, { tk := [77] }] [] [4, 5, 7, 10, 12, 13] [4, 7, 12] [] ⟨[(4, (.ptr 4 0, [])), (5, (.v (.bool s350_.2), [])), (7, (.ptr 7 0, [])), (10, (.v (.int .i64 u358_.2), [])), (12, (.ptr 12 0, [])), (13, (.v (.bool s361_.2), []))], [(4, .cells [.sl (List.map GIns.c s350_.1.gHead), .sl (List.map GIns.c s350_.1.gBody), .int .i64 s350_.1.gVars] []), (7, .cells [.slx, .slx, .int .i64 s352_.1.gVars] [(0, .ex 1000000007 true (List.map GIns.c u358_.1.gHead)), (1, .ex 1000000007 true (List.map GIns.c u358_.1.gBody))]), (12, .cells [.sl (List.map GIns.c s361_.1.gHead), .sl (List.map GIns.c s361_.1.gBody), .int .i64 s361_.1.gVars] [(0, .app 158), (1, .app 158)])], []⟩ _ (by kernel_rfl) (.cons (claws_toClause h387) (.cons (cimpl_CodeOf h388) .nil)) ?_
                    refine Wc.seq ?_
                    refine Wc.seq ?_
                    obtain ⟨f362_, h389, h⟩ := obind h
                    rcases oif h with ⟨h390, h⟩ | ⟨h390, h⟩
                    · refine Wc.region [{}, {}, { r := some (.v (.bool f362_) []) }, {}, { re := some (.bool true) }] [] [7, 10, 87] [7] [] ⟨[(7, (.ptr 7 0, [])), (10, (.v (.int .i64 u358_.2), [])), (87, (.v (.bool true), []))], [(7, .cells [.slx, .slx, .int .i64 s352_.1.gVars] [(0, .ex 1000000007 true (List.map GIns.c u358_.1.gHead)), (1, .ex 1000000007 true (List.map GIns.c u358_.1.gBody))])], []⟩ _ (by kernel_rfl) (.cons (claws_eqCode h389) (.cons (congrArg AV.bool h390) .nil)) ?_
                      refine Wc.condT rfl (by kernel_rfl) ?_
                      refine Wc.seq ?_
                      refine Wc.region [] [] [2] [] [] ⟨[(2, (.v (.bool false), []))], [], []⟩ _ (by kernel_rfl) .nil ?_
                      refine Wc.ret ?_
                      obtain rfl := Option.some.inj h
                      exact ⟨.inl rfl, by kernel_rfl, by kernel_rfl⟩
                    · refine Wc.region [{}, {}, { r := some (.v (.bool f362_) []) }, {}, { re := some (.bool false) }] [] [7, 10, 87] [7] [] ⟨[(7, (.ptr 7 0, [])), (10, (.v (.int .i64 u358_.2), [])), (87, (.v (.bool (!(s361_.2 == s350_.2))), []))], [(7, .cells [.slx, .slx, .int .i64 s352_.1.gVars] [(0, .ex 1000000007 true (List.map GIns.c u358_.1.gHead)), (1, .ex 1000000007 true (List.map GIns.c u358_.1.gBody))])], []⟩ _ (by kernel_rfl) (.cons (claws_eqCode h389) (.cons (congrArg AV.bool h390) .nil)) ?_
                      rcases oif h with ⟨h391, h⟩ | ⟨h391, h⟩
                      · refine Wc.condT h391 (by kernel_rfl) ?_
                        refine Wc.seq ?_
                        refine Wc.region [] [] [2] [] [] ⟨[(2, (.v (.bool false), []))], [], []⟩ _ (by kernel_rfl) .nil ?_
                        refine Wc.ret ?_
                        obtain rfl := Option.some.inj h
                        exact ⟨.inl rfl, by kernel_rfl, by kernel_rfl⟩
                      · refine Wc.condF h391 (by kernel_rfl) ?_
                        refine Wc.fix (st' := ⟨[(7, (.ptr 7 0, [])), (10, (.v (.int .i64 u358_.2), []))], [(7, .cells [.slx, .slx, .int .i64 s352_.1.gVars] [(0, .ex 1000000007 true (List.map GIns.c u358_.1.gHead)), (1, .ex 1000000007 true (List.map GIns.c u358_.1.gBody))])], []⟩) [] [7, 10] [7] [] (by kernel_rfl) ?_
                        refine Wc.skip ?_
                        refine Wc.seq ?_
                        refine Wc.region [] [] [7, 10, 11] [7] [] ⟨[(7, (.ptr 7 0, [])), (10, (.v (.int .i64 u358_.2), [])), (11, (.v (.int .i64 1), []))], [(7, .cells [.slx, .slx, .int .i64 s352_.1.gVars] [(0, .ex 1000000007 true (List.map GIns.c u358_.1.gHead)), (1, .ex 1000000007 true (List.map GIns.c u358_.1.gBody))])], []⟩ _ (by kernel_rfl) .nil ?_
                        refine Wc.seq ?_
                        obtain ⟨b363_, h392, h⟩ := obind h
                        refine Wc.region [{}, {}, { r := some (.v (.int .i64 b363_) []) }] [] [10, 11] [] [] ⟨[(10, (.v (.int .i64 u358_.2), [])), (11, (.v (.int .i64 b363_), []))], [], []⟩ _ (by kernel_rfl) (.cons (claws_heldCode h392) .nil) ?_
                        refine Wc.seq ?_
                        refine Wc.seq ?_
                        refine Wc.region [] [] [10, 11, 92] [] [] ⟨[(10, (.v (.int .i64 u358_.2), [])), (11, (.v (.int .i64 b363_), [])), (92, (.v (.bool (decide (b363_ < 0))), []))], [], []⟩ _ (by kernel_rfl) .nil ?_
                        rcases oif h with ⟨h393, h⟩ | ⟨h393, h⟩
                        · refine Wc.condT h393 (by kernel_rfl) ?_
                          refine Wc.seq ?_
                          refine Wc.region [] [] [2] [] [] ⟨[(2, (.v (.bool false), []))], [], []⟩ _ (by kernel_rfl) .nil ?_
                          refine Wc.ret ?_
                          obtain rfl := Option.some.inj h
                          exact ⟨.inl rfl, by kernel_rfl, by kernel_rfl⟩
                        · refine Wc.condF h393 (by kernel_rfl) ?_
                          refine Wc.fix (st' := ⟨[(10, (.v (.int .i64 u358_.2), [])), (11, (.v (.int .i64 b363_), []))], [], []⟩) [] [10, 11] [] [] (by kernel_rfl) ?_
                          refine Wc.skip ?_
                          refine Wc.seq ?_
                          refine Wc.seq ?_
                          refine Wc.region [] [] [95] [] [] ⟨[(95, (.v (.bool (b363_ != u358_.2)), []))], [], []⟩ _ (by kernel_rfl) .nil ?_
                          rcases oif h with ⟨h394, h⟩ | ⟨h394, h⟩
                          · refine Wc.condT h394 (by kernel_rfl) ?_
                            refine Wc.seq ?_
                            refine Wc.region [] [] [2] [] [] ⟨[(2, (.v (.bool false), []))], [], []⟩ _ (by kernel_rfl) .nil ?_
                            refine Wc.ret ?_
                            obtain rfl := Option.some.inj h
                            exact ⟨.inl rfl, by kernel_rfl, by kernel_rfl⟩
                          · refine Wc.condF h394 (by kernel_rfl) ?_
                            refine Wc.fix (st' := ⟨[], [], []⟩) [] [] [] [] (by kernel_rfl) ?_
                            refine Wc.skip ?_
                            refine Wc.seq ?_
                            refine Wc.region [] [] [2] [] [] ⟨[(2, (.v (.bool true), []))], [], []⟩ _ (by kernel_rfl) .nil ?_
                            refine Wc.ret ?_
                            obtain rfl := Option.some.inj h
                            exact ⟨.inl rfl, by kernel_rfl, by kernel_rfl⟩
end Go.Proofs.Ytgfpmdaihkdhkaa

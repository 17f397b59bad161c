/- What the functions do, part 2. -/
import Derived.Test.YtkmifafdenblcaaFna
set_option linter.unusedVariables false
set_option linter.unusedSimpArgs false
namespace Go.Proofs.Ytkmifafdenblcaa
open Go.RowKit Go.Bv
/-- laws.markDb -/
def plaws_markDb (k : Nat) (i237_ : GDb) (b238_ : Int) : Option (GDb × Int) :=
  (plaws_markClauseS k i237_.gClauses b238_).bind fun p239_ =>
  (plaws_markStringS k i237_.gOpen p239_.2).bind fun q240_ =>
  some (GDb.mk p239_.1 q240_.1, q240_.2)
theorem claws_markDb {k : Nat} {i237_ : GDb} {b238_ : Int} {r : GDb × Int} (h : plaws_markDb k i237_ b238_ = some r) : FnO Try.prog 11 [.io (.agg [.slx, .slx]) [(0, .ex 1000000007 true (List.map GClause.c i237_.gClauses)), (1, .ex 1000000007 true (List.map cS i237_.gOpen))], .v (.int .i64 b238_) []] (.v (.int .i64 r.2) []) [(0, .v .undef [(0, .ex 1000000007 true (List.map GClause.c r.1.gClauses)), (1, .ex 1000000007 true (List.map cS r.1.gOpen))])] := by
  refine FnO.of Try.func11 (rfl : Try.f11.body = some _) (Nat.le_of_ble_eq_true (by kernel_rfl)) (Nat.le_of_ble_eq_true (by kernel_rfl)) ?_
  intro w0 X0 Fin pv0 pb gt
  unfold plaws_markDb at h
  refine Wc.seq ?_
  refine Wc.region [] [] [1, 2] [2] [0] ⟨[(1, (.v (.int .i64 b238_), [])), (2, (.ptr 2 0, []))], [(2, .cells [.slx, .slx] [(0, .al (.a 0 0) []), (1, .al (.a 0 1) [])])], [(0, [(0, .ex 1000000007 true (List.map GClause.c i237_.gClauses)), (1, .ex 1000000007 true (List.map cS i237_.gOpen))])]⟩ _ (by kernel_rfl) .nil ?_
  refine Wc.seq ?_
  obtain ⟨p239_, h198, h⟩ := obind h
  refine Wc.region [{}, {}, {}, { io := [0], r := some (.v (.int .i64 p239_.2) []), outs := [(0, .v .undef [(0, .ex 1000000007 true (List.map GClause.c p239_.1))])] }] [] [1, 2] [2] [0] ⟨[(1, (.v (.int .i64 p239_.2), [])), (2, (.ptr 2 0, []))], [(2, .cells [.slx, .slx] [(0, .al (.a 0 0) []), (1, .al (.a 0 1) [])])], [(0, [(0, .ex 1000000007 true (List.map GClause.c p239_.1)), (1, .ex 1000000007 true (List.map cS i237_.gOpen))])]⟩ _ (by kernel_rfl) (.cons (FnO.any (args := [.io (.slx) [(0, .ex 1000000007 true (List.map GClause.c i237_.gClauses))], .v (.int .i64 b238_) []]) (claws_markClauseS h198)) .nil) ?_
  refine Wc.seq ?_
  obtain ⟨q240_, h199, h⟩ := obind h
  refine Wc.region [{}, {}, {}, { io := [0], r := some (.v (.int .i64 q240_.2) []), outs := [(0, .v .undef [(0, .ex 1000000007 true (List.map cS q240_.1))])] }] [] [1] [] [0] ⟨[(1, (.v (.int .i64 q240_.2), []))], [], [(0, [(0, .ex 1000000007 true (List.map GClause.c p239_.1)), (1, .ex 1000000007 true (List.map cS q240_.1))])]⟩ _ (by kernel_rfl) (.cons (FnO.any (args := [.io (.slx) [(0, .ex 1000000007 true (List.map cS i237_.gOpen))], .v (.int .i64 p239_.2) []]) (claws_markStringS h199)) .nil) ?_
  refine Wc.seq ?_
  refine Wc.region [] [] [4] [] [0] ⟨[(4, (.v (.int .i64 q240_.2), []))], [], [(0, [(0, .ex 1000000007 true (List.map GClause.c p239_.1)), (1, .ex 1000000007 true (List.map cS q240_.1))])]⟩ _ (by kernel_rfl) .nil ?_
  refine Wc.ret ?_
  obtain rfl := Option.some.inj h
  exact ⟨.inl rfl, by kernel_rfl, by kernel_rfl⟩

def plaws_heldTermS_L1 (k : Nat) (rlaws_heldTermS : (List GTerm) → Int → Option Int) (a241_ : List GTerm) : Nat → Int → Int → Option (Out Int Int)
  | 0, _, _ => none
  | m + 1, b243_, b244_ =>
    if (decide (b244_ < (a241_.length : Int))) = true then
      (at' a241_ b244_).bind fun c246_ =>
      if (c246_.gKind != b243_) = true then
        some (.ret (-1))
      else
        (at' a241_ b244_).bind fun c247_ =>
        (plaws_markText k (wr.i64 (b243_ + 1))).bind fun g248_ =>
        if (!(sEq c247_.gName g248_)) = true then
          some (.ret (-1))
        else
          (at' a241_ b244_).bind fun c249_ =>
          if (c249_.gNum != (wr.i64 ((wr.i64 (b243_ + 1)) + 1))) = true then
            some (.ret (-1))
          else
            (at' a241_ b244_).bind fun c250_ =>
            (rlaws_heldTermS c250_.gKids (wr.i64 ((wr.i64 ((wr.i64 (b243_ + 1)) + 1)) + 1))).bind fun b251_ =>
            if (decide (b251_ < 0)) = true then
              some (.ret (-1))
            else
              plaws_heldTermS_L1 k rlaws_heldTermS a241_ m b251_ (wr.i64 (b244_ + 1))
    else
      some (.done b243_)
mutual
/-- laws.heldTermS -/
def plaws_heldTermS : Nat → (List GTerm) → Int → Option Int
  | 0, _, _ => none
  | k + 1, a241_, b242_ =>
    (plaws_heldTermS_L1 k (plaws_heldTermS k) a241_ k b242_ 0).bind fun out1 => match out1 with
    | .ret r => some r
    | .done b245_ =>
      some b245_
end
theorem all_plaws_heldTermS : ∀ k : Nat, (∀ {a241_ : List GTerm} {b242_ : Int} {r : Int}, plaws_heldTermS k a241_ b242_ = some r → FnO Try.prog 90 [.v (.sl (List.map GTerm.c a241_)) [], .v (.int .i64 b242_) []] (.v (.int .i64 r) []) []) := by
  intro k
  induction k with
  | zero =>
    · intro a241_ b242_ r h
      exact (onone (by rw [plaws_heldTermS] at h; exact h)).elim
  | succ k ih =>
    have ih_plaws_heldTermS := @ih
    · intro a241_ b242_ r h
      rw [plaws_heldTermS] at h
      refine FnO.of Try.func90 (rfl : Try.f90.body = some _) (Nat.le_of_ble_eq_true (by kernel_rfl)) (Nat.le_of_ble_eq_true (by kernel_rfl)) ?_
      intro w0 X0 Fin pv0 pb gt
      refine Wc.seq ?_
      refine Wc.region [] [] [0, 1] [] [] ⟨[(0, (.v (.sl (List.map GTerm.c a241_)), [])), (1, (.v (.int .i64 b242_), []))], [], []⟩ _ (by kernel_rfl) .nil ?_
      refine Wc.seq ?_
      refine Wc.seq ?_
      refine Wc.region [] [] [0, 1, 5] [] [] ⟨[(0, (.v (.sl (List.map GTerm.c a241_)), [])), (1, (.v (.int .i64 b242_), [])), (5, (.v (.int .i64 0), []))], [], []⟩ _ (by kernel_rfl) .nil ?_
      obtain ⟨out1, h200, h⟩ := obind h
      refine Wc.lastJ (fun st => ∃ (b245_ : Int), out1 = .done b245_ ∧ st = ⟨[(1, (.v (.int .i64 b245_), []))], [], []⟩) ?_ ?_
      · refine Wc.block ?_
        refine Wc.loop (fun m st => ∃ (b243_ : Int) (b244_ : Int), st = ⟨[(0, (.v (.sl (List.map GTerm.c a241_)), [])), (1, (.v (.int .i64 b243_), [])), (5, (.v (.int .i64 b244_), []))], [], []⟩ ∧ plaws_heldTermS_L1 k (plaws_heldTermS k) a241_ m b243_ b244_ = some out1) ?_ k ⟨_, _, rfl, h200⟩
        rintro m st ⟨b243_, b244_, rfl, h200⟩
        cases m with
        | zero => exact (onone h200).elim
        | succ m =>
          refine Wc.seq ?_
          refine Wc.seq ?_
          refine Wc.region [{}, {}, { v := some (.int .i64 (a241_.length : Int)) }] [] [0, 1, 5, 9] [] [] ⟨[(0, (.v (.sl (List.map GTerm.c a241_)), [])), (1, (.v (.int .i64 b243_), [])), (5, (.v (.int .i64 b244_), [])), (9, (.v (.bool (decide (b244_ < (a241_.length : Int)))), []))], [], []⟩ _ (by kernel_rfl) (.cons (len_obl GTerm.c a241_) .nil) ?_
          rcases oif h200 with ⟨h201, h200⟩ | ⟨h201, h200⟩
          · refine Wc.condT h201 (by kernel_rfl) ?_
            refine Wc.fix (st' := ⟨[(0, (.v (.sl (List.map GTerm.c a241_)), [])), (1, (.v (.int .i64 b243_), [])), (5, (.v (.int .i64 b244_), []))], [], []⟩) [] [0, 1, 5] [] [] (by kernel_rfl) ?_
            refine Wc.skip ?_
            refine Wc.seq ?_
            refine Wc.block ?_
            refine Wc.seq ?_
            refine Wc.seq ?_
            obtain ⟨c246_, h202, h200⟩ := obind h200
            refine Wc.region [{}, {}, { v := some (.vptr [.int .i64 c246_.gKind, .str c246_.gName, .int .i64 c246_.gNum, .sl (List.map GTerm.c c246_.gKids)]) }] [] [0, 1, 5, 18] [] [] ⟨[(0, (.v (.sl (List.map GTerm.c a241_)), [])), (1, (.v (.int .i64 b243_), [])), (5, (.v (.int .i64 b244_), [])), (18, (.v (.bool (c246_.gKind != b243_)), []))], [], []⟩ _ (by kernel_rfl) (.cons (at_obl (c := GTerm.c) (GTerm.c_eq c246_) GTerm.c_len h202) (.cons (len_ok 1 [.int .i64 c246_.gKind, .str c246_.gName, .int .i64 c246_.gNum, .sl (List.map GTerm.c c246_.gKids)]) .nil)) ?_
            rcases oif h200 with ⟨h203, h200⟩ | ⟨h203, h200⟩
            · refine Wc.condT h203 (by kernel_rfl) ?_
              refine Wc.seq ?_
              refine Wc.region [] [] [4] [] [] ⟨[(4, (.v (.int .i64 (-1)), []))], [], []⟩ _ (by kernel_rfl) .nil ?_
              refine Wc.ret ?_
              obtain rfl := Option.some.inj h200
              obtain rfl := Option.some.inj h
              exact ⟨.inl rfl, by kernel_rfl, by kernel_rfl⟩
            · refine Wc.condF h203 (by kernel_rfl) ?_
              refine Wc.fix (st' := ⟨[(0, (.v (.sl (List.map GTerm.c a241_)), [])), (1, (.v (.int .i64 b243_), [])), (5, (.v (.int .i64 b244_), []))], [], []⟩) [] [0, 1, 5] [] [] (by kernel_rfl) ?_
              refine Wc.skip ?_
              refine Wc.seq ?_
              refine Wc.region [] [] [0, 1, 5] [] [] ⟨[(0, (.v (.sl (List.map GTerm.c a241_)), [])), (1, (.v (.int .i64 (wr.i64 (b243_ + 1))), [])), (5, (.v (.int .i64 b244_), []))], [], []⟩ _ (by kernel_rfl) .nil ?_
              refine Wc.seq ?_
              refine Wc.seq ?_
              obtain ⟨c247_, h204, h200⟩ := obind h200
              obtain ⟨g248_, h205, h200⟩ := obind h200
              refine Wc.draw hmix [{}, {}, { v := some (.vptr [.int .i64 c247_.gKind, .str c247_.gName, .int .i64 c247_.gNum, .sl (List.map GTerm.c c247_.gKids)]) }, {}, {}, {}, { r := some (.v (.str g248_) []) }] [] [0, 1, 5, 28] [] [] ⟨[(0, (.v (.sl (List.map GTerm.c a241_)), [])), (1, (.v (.int .i64 (wr.i64 (b243_ + 1))), [])), (5, (.v (.int .i64 b244_), [])), (28, (.v (.bool (!(sEq c247_.gName g248_))), []))], [], []⟩ _ (by kernel_rfl) (fun X => by kernel_rfl) (.cons (at_obl (c := GTerm.c) (GTerm.c_eq c247_) GTerm.c_len h204) (.cons (len_ok 1 [.str c247_.gName, .int .i64 c247_.gNum, .sl (List.map GTerm.c c247_.gKids)]) (.cons (claws_markText h205) .nil))) ?_
              rcases oif h200 with ⟨h206, h200⟩ | ⟨h206, h200⟩
              · refine Wc.condT h206 (by kernel_rfl) ?_
                refine Wc.seq ?_
                refine Wc.region [] [] [4] [] [] ⟨[(4, (.v (.int .i64 (-1)), []))], [], []⟩ _ (by kernel_rfl) .nil ?_
                refine Wc.ret ?_
                obtain rfl := Option.some.inj h200
                obtain rfl := Option.some.inj h
                exact ⟨.inl rfl, by kernel_rfl, by kernel_rfl⟩
              · refine Wc.condF h206 (by kernel_rfl) ?_
                refine Wc.fix (st' := ⟨[(0, (.v (.sl (List.map GTerm.c a241_)), [])), (1, (.v (.int .i64 (wr.i64 (b243_ + 1))), [])), (5, (.v (.int .i64 b244_), []))], [], []⟩) [] [0, 1, 5] [] [] (by kernel_rfl) ?_
                refine Wc.skip ?_
                refine Wc.seq ?_
                refine Wc.region [] [] [0, 1, 5] [] [] ⟨[(0, (.v (.sl (List.map GTerm.c a241_)), [])), (1, (.v (.int .i64 (wr.i64 ((wr.i64 (b243_ + 1)) + 1))), [])), (5, (.v (.int .i64 b244_), []))], [], []⟩ _ (by kernel_rfl) .nil ?_
                refine Wc.seq ?_
                refine Wc.seq ?_
                obtain ⟨c249_, h207, h200⟩ := obind h200
                refine Wc.region [{}, {}, { v := some (.vptr [.int .i64 c249_.gKind, .str c249_.gName, .int .i64 c249_.gNum, .sl (List.map GTerm.c c249_.gKids)]) }] [] [0, 1, 5, 37] [] [] ⟨[(0, (.v (.sl (List.map GTerm.c a241_)), [])), (1, (.v (.int .i64 (wr.i64 ((wr.i64 (b243_ + 1)) + 1))), [])), (5, (.v (.int .i64 b244_), [])), (37, (.v (.bool (c249_.gNum != (wr.i64 ((wr.i64 (b243_ + 1)) + 1)))), []))], [], []⟩ _ (by kernel_rfl) (.cons (at_obl (c := GTerm.c) (GTerm.c_eq c249_) GTerm.c_len h207) (.cons (len_ok 1 [.int .i64 c249_.gNum, .sl (List.map GTerm.c c249_.gKids)]) .nil)) ?_
                rcases oif h200 with ⟨h208, h200⟩ | ⟨h208, h200⟩
                · refine Wc.condT h208 (by kernel_rfl) ?_
                  refine Wc.seq ?_
                  refine Wc.region [] [] [4] [] [] ⟨[(4, (.v (.int .i64 (-1)), []))], [], []⟩ _ (by kernel_rfl) .nil ?_
                  refine Wc.ret ?_
                  obtain rfl := Option.some.inj h200
                  obtain rfl := Option.some.inj h
                  exact ⟨.inl rfl, by kernel_rfl, by kernel_rfl⟩
                · refine Wc.condF h208 (by kernel_rfl) ?_
                  refine Wc.fix (st' := ⟨[(0, (.v (.sl (List.map GTerm.c a241_)), [])), (1, (.v (.int .i64 (wr.i64 ((wr.i64 (b243_ + 1)) + 1))), [])), (5, (.v (.int .i64 b244_), []))], [], []⟩) [] [0, 1, 5] [] [] (by kernel_rfl) ?_
                  refine Wc.skip ?_
                  refine Wc.seq ?_
                  refine Wc.region [] [] [0, 1, 5] [] [] ⟨[(0, (.v (.sl (List.map GTerm.c a241_)), [])), (1, (.v (.int .i64 (wr.i64 ((wr.i64 ((wr.i64 (b243_ + 1)) + 1)) + 1))), [])), (5, (.v (.int .i64 b244_), []))], [], []⟩ _ (by kernel_rfl) .nil ?_
                  refine Wc.seq ?_
                  obtain ⟨c250_, h209, h200⟩ := obind h200
                  obtain ⟨b251_, h210, h200⟩ := obind h200
                  refine Wc.region [{}, {}, { v := some (.vptr [.int .i64 c250_.gKind, .str c250_.gName, .int .i64 c250_.gNum, .sl (List.map GTerm.c c250_.gKids)]) }, {}, {}, {}, { r := some (.v (.int .i64 b251_) []) }] [] [0, 1, 5] [] [] ⟨[(0, (.v (.sl (List.map GTerm.c a241_)), [])), (1, (.v (.int .i64 b251_), [])), (5, (.v (.int .i64 b244_), []))], [], []⟩ _ (by kernel_rfl) (.cons (at_obl (c := GTerm.c) (GTerm.c_eq c250_) GTerm.c_len h209) (.cons (len_ok 1 [.sl (List.map GTerm.c c250_.gKids)]) (.cons (ih_plaws_heldTermS h210) .nil))) ?_
                  refine Wc.seq ?_
                  refine Wc.region [] [] [0, 1, 5, 48] [] [] ⟨[(0, (.v (.sl (List.map GTerm.c a241_)), [])), (1, (.v (.int .i64 b251_), [])), (5, (.v (.int .i64 b244_), [])), (48, (.v (.bool (decide (b251_ < 0))), []))], [], []⟩ _ (by kernel_rfl) .nil ?_
                  rcases oif h200 with ⟨h211, h200⟩ | ⟨h211, h200⟩
                  · refine Wc.condT h211 (by kernel_rfl) ?_
                    refine Wc.seq ?_
                    refine Wc.region [] [] [4] [] [] ⟨[(4, (.v (.int .i64 (-1)), []))], [], []⟩ _ (by kernel_rfl) .nil ?_
                    refine Wc.ret ?_
                    obtain rfl := Option.some.inj h200
                    obtain rfl := Option.some.inj h
                    exact ⟨.inl rfl, by kernel_rfl, by kernel_rfl⟩
                  · refine Wc.condF h211 (by kernel_rfl) ?_
                    refine Wc.fix (st' := ⟨[(0, (.v (.sl (List.map GTerm.c a241_)), [])), (1, (.v (.int .i64 b251_), [])), (5, (.v (.int .i64 b244_), []))], [], []⟩) [] [0, 1, 5] [] [] (by kernel_rfl) ?_
                    refine Wc.skip ?_
                    refine Wc.region [] [] [0, 1, 5] [] [] ⟨[(0, (.v (.sl (List.map GTerm.c a241_)), [])), (1, (.v (.int .i64 b251_), [])), (5, (.v (.int .i64 (wr.i64 (b244_ + 1))), []))], [], []⟩ _ (by kernel_rfl) .nil ?_
                    exact ⟨_, Nat.lt_succ_self _, _, _, rfl, h200⟩
          · refine Wc.condF h201 (by kernel_rfl) ?_
            refine Wc.fix (st' := ⟨[(1, (.v (.int .i64 b243_), []))], [], []⟩) [] [1] [] [] (by kernel_rfl) ?_
            refine Wc.exit ?_
            obtain rfl := Option.some.inj h200
            exact ⟨_, rfl, rfl⟩
      · rintro st ⟨b245_, rfl, rfl⟩
        refine Wc.seq ?_
        refine Wc.region [] [] [4] [] [] ⟨[(4, (.v (.int .i64 b245_), []))], [], []⟩ _ (by kernel_rfl) .nil ?_
        refine Wc.ret ?_
        obtain rfl := Option.some.inj h
        exact ⟨.inl rfl, by kernel_rfl, by kernel_rfl⟩
theorem claws_heldTermS {k : Nat} {a241_ : List GTerm} {b242_ : Int} {r : Int} (h : plaws_heldTermS k a241_ b242_ = some r) : FnO Try.prog 90 [.v (.sl (List.map GTerm.c a241_)) [], .v (.int .i64 b242_) []] (.v (.int .i64 r) []) [] := (all_plaws_heldTermS k) h

def plaws_heldClauseS_L1 (k : Nat) (e252_ : List GClause) : Nat → Int → Int → Option (Out Int Int)
  | 0, _, _ => none
  | m + 1, b254_, b255_ =>
    if (decide (b255_ < (e252_.length : Int))) = true then
      (at' e252_ b255_).bind fun d257_ =>
      if (d257_.gHead.gKind != b254_) = true then
        some (.ret (-1))
      else
        (at' e252_ b255_).bind fun d258_ =>
        (plaws_markText k (wr.i64 (b254_ + 1))).bind fun g259_ =>
        if (!(sEq d258_.gHead.gName g259_)) = true then
          some (.ret (-1))
        else
          (at' e252_ b255_).bind fun d260_ =>
          if (d260_.gHead.gNum != (wr.i64 ((wr.i64 (b254_ + 1)) + 1))) = true then
            some (.ret (-1))
          else
            (at' e252_ b255_).bind fun d261_ =>
            (plaws_heldTermS k d261_.gHead.gKids (wr.i64 ((wr.i64 ((wr.i64 (b254_ + 1)) + 1)) + 1))).bind fun b262_ =>
            if (decide (b262_ < 0)) = true then
              some (.ret (-1))
            else
              (at' e252_ b255_).bind fun d263_ =>
              if (d263_.gBody.gKind != b262_) = true then
                some (.ret (-1))
              else
                (at' e252_ b255_).bind fun d264_ =>
                (plaws_markText k (wr.i64 (b262_ + 1))).bind fun g265_ =>
                if (!(sEq d264_.gBody.gName g265_)) = true then
                  some (.ret (-1))
                else
                  (at' e252_ b255_).bind fun d266_ =>
                  if (d266_.gBody.gNum != (wr.i64 ((wr.i64 (b262_ + 1)) + 1))) = true then
                    some (.ret (-1))
                  else
                    (at' e252_ b255_).bind fun d267_ =>
                    (plaws_heldTermS k d267_.gBody.gKids (wr.i64 ((wr.i64 ((wr.i64 (b262_ + 1)) + 1)) + 1))).bind fun b268_ =>
                    if (decide (b268_ < 0)) = true then
                      some (.ret (-1))
                    else
                      (at' e252_ b255_).bind fun d269_ =>
                      (plaws_markText k b268_).bind fun g270_ =>
                      if (!(sEq d269_.gFile g270_)) = true then
                        some (.ret (-1))
                      else
                        plaws_heldClauseS_L1 k e252_ m (wr.i64 (b268_ + 1)) (wr.i64 (b255_ + 1))
    else
      some (.done b254_)
/-- laws.heldClauseS -/
def plaws_heldClauseS (k : Nat) (e252_ : List GClause) (b253_ : Int) : Option Int :=
  (plaws_heldClauseS_L1 k e252_ k b253_ 0).bind fun out1 => match out1 with
  | .ret r => some r
  | .done b256_ =>
    some b256_
set_option maxHeartbeats 4000000 in
theorem claws_heldClauseS {k : Nat} {e252_ : List GClause} {b253_ : Int} {r : Int} (h : plaws_heldClauseS k e252_ b253_ = some r) : FnO Try.prog 48 [.v (.sl (List.map GClause.c e252_)) [], .v (.int .i64 b253_) []] (.v (.int .i64 r) []) [] := by
  refine FnO.of Try.func48 (rfl : Try.f48.body = some _) (Nat.le_of_ble_eq_true (by kernel_rfl)) (Nat.le_of_ble_eq_true (by kernel_rfl)) ?_
  intro w0 X0 Fin pv0 pb gt
  unfold plaws_heldClauseS at h
  refine Wc.seq ?_
  refine Wc.region [] [] [0, 1] [] [] ⟨[(0, (.v (.sl (List.map GClause.c e252_)), [])), (1, (.v (.int .i64 b253_), []))], [], []⟩ _ (by kernel_rfl) .nil ?_
  refine Wc.seq ?_
  refine Wc.seq ?_
  refine Wc.region [] [] [0, 1, 5] [] [] ⟨[(0, (.v (.sl (List.map GClause.c e252_)), [])), (1, (.v (.int .i64 b253_), [])), (5, (.v (.int .i64 0), []))], [], []⟩ _ (by kernel_rfl) .nil ?_
  obtain ⟨out1, h212, h⟩ := obind h
  refine Wc.lastJ (fun st => ∃ (b256_ : Int), out1 = .done b256_ ∧ st = ⟨[(1, (.v (.int .i64 b256_), []))], [], []⟩) ?_ ?_
  · refine Wc.block ?_
    refine Wc.loop (fun m st => ∃ (b254_ : Int) (b255_ : Int), st = ⟨[(0, (.v (.sl (List.map GClause.c e252_)), [])), (1, (.v (.int .i64 b254_), [])), (5, (.v (.int .i64 b255_), []))], [], []⟩ ∧ plaws_heldClauseS_L1 k e252_ m b254_ b255_ = some out1) ?_ k ⟨_, _, rfl, h212⟩
    rintro m st ⟨b254_, b255_, rfl, h212⟩
    cases m with
    | zero => exact (onone h212).elim
    | succ m =>
      refine Wc.seq ?_
      refine Wc.seq ?_
      refine Wc.region [{}, {}, { v := some (.int .i64 (e252_.length : Int)) }] [] [0, 1, 5, 9] [] [] ⟨[(0, (.v (.sl (List.map GClause.c e252_)), [])), (1, (.v (.int .i64 b254_), [])), (5, (.v (.int .i64 b255_), [])), (9, (.v (.bool (decide (b255_ < (e252_.length : Int)))), []))], [], []⟩ _ (by kernel_rfl) (.cons (len_obl GClause.c e252_) .nil) ?_
      rcases oif h212 with ⟨h213, h212⟩ | ⟨h213, h212⟩
      · refine Wc.condT h213 (by kernel_rfl) ?_
        refine Wc.fix (st' := ⟨[(0, (.v (.sl (List.map GClause.c e252_)), [])), (1, (.v (.int .i64 b254_), [])), (5, (.v (.int .i64 b255_), []))], [], []⟩) [] [0, 1, 5] [] [] (by kernel_rfl) ?_
        refine Wc.skip ?_
        refine Wc.seq ?_
        refine Wc.block ?_
        refine Wc.seq ?_
        refine Wc.seq ?_
        obtain ⟨d257_, h214, h212⟩ := obind h212
        refine Wc.region [{}, {}, { v := some (.vptr [.int .i64 d257_.gHead.gKind, .str d257_.gHead.gName, .int .i64 d257_.gHead.gNum, .sl (List.map GTerm.c d257_.gHead.gKids), .int .i64 d257_.gBody.gKind, .str d257_.gBody.gName, .int .i64 d257_.gBody.gNum, .sl (List.map GTerm.c d257_.gBody.gKids), .str d257_.gFile]) }] [] [0, 1, 5, 19] [] [] ⟨[(0, (.v (.sl (List.map GClause.c e252_)), [])), (1, (.v (.int .i64 b254_), [])), (5, (.v (.int .i64 b255_), [])), (19, (.v (.bool (d257_.gHead.gKind != b254_)), []))], [], []⟩ _ (by kernel_rfl) (.cons (at_obl (c := GClause.c) (GClause.c_eq d257_) GClause.c_len h214) (.cons (len_ok 1 [.int .i64 d257_.gHead.gKind, .str d257_.gHead.gName, .int .i64 d257_.gHead.gNum, .sl (List.map GTerm.c d257_.gHead.gKids), .int .i64 d257_.gBody.gKind, .str d257_.gBody.gName, .int .i64 d257_.gBody.gNum, .sl (List.map GTerm.c d257_.gBody.gKids), .str d257_.gFile]) .nil)) ?_
        rcases oif h212 with ⟨h215, h212⟩ | ⟨h215, h212⟩
        · refine Wc.condT h215 (by kernel_rfl) ?_
          refine Wc.seq ?_
          refine Wc.region [] [] [4] [] [] ⟨[(4, (.v (.int .i64 (-1)), []))], [], []⟩ _ (by kernel_rfl) .nil ?_
          refine Wc.ret ?_
          obtain rfl := Option.some.inj h212
          obtain rfl := Option.some.inj h
          exact ⟨.inl rfl, by kernel_rfl, by kernel_rfl⟩
        · refine Wc.condF h215 (by kernel_rfl) ?_
          refine Wc.fix (st' := ⟨[(0, (.v (.sl (List.map GClause.c e252_)), [])), (1, (.v (.int .i64 b254_), [])), (5, (.v (.int .i64 b255_), []))], [], []⟩) [] [0, 1, 5] [] [] (by kernel_rfl) ?_
          refine Wc.skip ?_
          refine Wc.seq ?_
          refine Wc.region [] [] [0, 1, 5] [] [] ⟨[(0, (.v (.sl (List.map GClause.c e252_)), [])), (1, (.v (.int .i64 (wr.i64 (b254_ + 1))), [])), (5, (.v (.int .i64 b255_), []))], [], []⟩ _ (by kernel_rfl) .nil ?_
          refine Wc.seq ?_
          refine Wc.seq ?_
          obtain ⟨d258_, h216, h212⟩ := obind h212
          obtain ⟨g259_, h217, h212⟩ := obind h212
          refine Wc.draw hmix [{}, {}, { v := some (.vptr [.int .i64 d258_.gHead.gKind, .str d258_.gHead.gName, .int .i64 d258_.gHead.gNum, .sl (List.map GTerm.c d258_.gHead.gKids), .int .i64 d258_.gBody.gKind, .str d258_.gBody.gName, .int .i64 d258_.gBody.gNum, .sl (List.map GTerm.c d258_.gBody.gKids), .str d258_.gFile]) }, {}, {}, {}, {}, { r := some (.v (.str g259_) []) }] [] [0, 1, 5, 30] [] [] ⟨[(0, (.v (.sl (List.map GClause.c e252_)), [])), (1, (.v (.int .i64 (wr.i64 (b254_ + 1))), [])), (5, (.v (.int .i64 b255_), [])), (30, (.v (.bool (!(sEq d258_.gHead.gName g259_))), []))], [], []⟩ _ (by kernel_rfl) (fun X => by kernel_rfl) (.cons (at_obl (c := GClause.c) (GClause.c_eq d258_) GClause.c_len h216) (.cons (len_ok 1 [.str d258_.gHead.gName, .int .i64 d258_.gHead.gNum, .sl (List.map GTerm.c d258_.gHead.gKids), .int .i64 d258_.gBody.gKind, .str d258_.gBody.gName, .int .i64 d258_.gBody.gNum, .sl (List.map GTerm.c d258_.gBody.gKids), .str d258_.gFile]) (.cons (claws_markText h217) .nil))) ?_
          rcases oif h212 with ⟨h218, h212⟩ | ⟨h218, h212⟩
          · refine Wc.condT h218 (by kernel_rfl) ?_
            refine Wc.seq ?_
            refine Wc.region [] [] [4] [] [] ⟨[(4, (.v (.int .i64 (-1)), []))], [], []⟩ _ (by kernel_rfl) .nil ?_
            refine Wc.ret ?_
            obtain rfl := Option.some.inj h212
            obtain rfl := Option.some.inj h
            exact ⟨.inl rfl, by kernel_rfl, by kernel_rfl⟩
          · refine Wc.condF h218 (by kernel_rfl) ?_
            refine Wc.fix (st' := ⟨[(0, (.v (.sl (List.map GClause.c e252_)), [])), (1, (.v (.int .i64 (wr.i64 (b254_ + 1))), [])), (5, (.v (.int .i64 b255_), []))], [], []⟩) [] [0, 1, 5] [] [] (by kernel_rfl) ?_
            refine Wc.skip ?_
            refine Wc.seq ?_
            refine Wc.region [] [] [0, 1, 5] [] [] ⟨[(0, (.v (.sl (List.map GClause.c e252_)), [])), (1, (.v (.int .i64 (wr.i64 ((wr.i64 (b254_ + 1)) + 1))), [])), (5, (.v (.int .i64 b255_), []))], [], []⟩ _ (by kernel_rfl) .nil ?_
            refine Wc.seq ?_
            refine Wc.seq ?_
            obtain ⟨d260_, h219, h212⟩ := obind h212
            refine Wc.region [{}, {}, { v := some (.vptr [.int .i64 d260_.gHead.gKind, .str d260_.gHead.gName, .int .i64 d260_.gHead.gNum, .sl (List.map GTerm.c d260_.gHead.gKids), .int .i64 d260_.gBody.gKind, .str d260_.gBody.gName, .int .i64 d260_.gBody.gNum, .sl (List.map GTerm.c d260_.gBody.gKids), .str d260_.gFile]) }] [] [0, 1, 5, 40] [] [] ⟨[(0, (.v (.sl (List.map GClause.c e252_)), [])), (1, (.v (.int .i64 (wr.i64 ((wr.i64 (b254_ + 1)) + 1))), [])), (5, (.v (.int .i64 b255_), [])), (40, (.v (.bool (d260_.gHead.gNum != (wr.i64 ((wr.i64 (b254_ + 1)) + 1)))), []))], [], []⟩ _ (by kernel_rfl) (.cons (at_obl (c := GClause.c) (GClause.c_eq d260_) GClause.c_len h219) (.cons (len_ok 1 [.int .i64 d260_.gHead.gNum, .sl (List.map GTerm.c d260_.gHead.gKids), .int .i64 d260_.gBody.gKind, .str d260_.gBody.gName, .int .i64 d260_.gBody.gNum, .sl (List.map GTerm.c d260_.gBody.gKids), .str d260_.gFile]) .nil)) ?_
            rcases oif h212 with ⟨h220, h212⟩ | ⟨h220, h212⟩
            · refine Wc.condT h220 (by kernel_rfl) ?_
              refine Wc.seq ?_
              refine Wc.region [] [] [4] [] [] ⟨[(4, (.v (.int .i64 (-1)), []))], [], []⟩ _ (by kernel_rfl) .nil ?_
              refine Wc.ret ?_
              obtain rfl := Option.some.inj h212
              obtain rfl := Option.some.inj h
              exact ⟨.inl rfl, by kernel_rfl, by kernel_rfl⟩
            · refine Wc.condF h220 (by kernel_rfl) ?_
              refine Wc.fix (st' := ⟨[(0, (.v (.sl (List.map GClause.c e252_)), [])), (1, (.v (.int .i64 (wr.i64 ((wr.i64 (b254_ + 1)) + 1))), [])), (5, (.v (.int .i64 b255_), []))], [], []⟩) [] [0, 1, 5] [] [] (by kernel_rfl) ?_
              refine Wc.skip ?_
              refine Wc.seq ?_
              refine Wc.region [] [] [0, 1, 5] [] [] ⟨[(0, (.v (.sl (List.map GClause.c e252_)), [])), (1, (.v (.int .i64 (wr.i64 ((wr.i64 ((wr.i64 (b254_ + 1)) + 1)) + 1))), [])), (5, (.v (.int .i64 b255_), []))], [], []⟩ _ (by kernel_rfl) .nil ?_
              refine Wc.seq ?_
              obtain ⟨d261_, h221, h212⟩ := obind h212
              obtain ⟨b262_, h222, h212⟩ := obind h212
              refine Wc.region [{}, {}, { v := some (.vptr [.int .i64 d261_.gHead.gKind, .str d261_.gHead.gName, .int .i64 d261_.gHead.gNum, .sl (List.map GTerm.c d261_.gHead.gKids), .int .i64 d261_.gBody.gKind, .str d261_.gBody.gName, .int .i64 d261_.gBody.gNum, .sl (List.map GTerm.c d261_.gBody.gKids), .str d261_.gFile]) }, {}, {}, {}, {}, { r := some (.v (.int .i64 b262_) []) }] [] [0, 1, 5] [] [] ⟨[(0, (.v (.sl (List.map GClause.c e252_)), [])), (1, (.v (.int .i64 b262_), [])), (5, (.v (.int .i64 b255_), []))], [], []⟩ _ (by kernel_rfl) (.cons (at_obl (c := GClause.c) (GClause.c_eq d261_) GClause.c_len h221) (.cons (len_ok 1 [.sl (List.map GTerm.c d261_.gHead.gKids), .int .i64 d261_.gBody.gKind, .str d261_.gBody.gName, .int .i64 d261_.gBody.gNum, .sl (List.map GTerm.c d261_.gBody.gKids), .str d261_.gFile]) (.cons (claws_heldTermS h222) .nil))) ?_
              refine Wc.seq ?_
              refine Wc.seq ?_
              refine Wc.region [] [] [0, 1, 5, 52] [] [] ⟨[(0, (.v (.sl (List.map GClause.c e252_)), [])), (1, (.v (.int .i64 b262_), [])), (5, (.v (.int .i64 b255_), [])), (52, (.v (.bool (decide (b262_ < 0))), []))], [], []⟩ _ (by kernel_rfl) .nil ?_
              rcases oif h212 with ⟨h223, h212⟩ | ⟨h223, h212⟩
              · refine Wc.condT h223 (by kernel_rfl) ?_
                refine Wc.seq ?_
                refine Wc.region [] [] [4] [] [] ⟨[(4, (.v (.int .i64 (-1)), []))], [], []⟩ _ (by kernel_rfl) .nil ?_
                refine Wc.ret ?_
                obtain rfl := Option.some.inj h212
                obtain rfl := Option.some.inj h
                exact ⟨.inl rfl, by kernel_rfl, by kernel_rfl⟩
              · refine Wc.condF h223 (by kernel_rfl) ?_
                refine Wc.fix (st' := ⟨[(0, (.v (.sl (List.map GClause.c e252_)), [])), (1, (.v (.int .i64 b262_), [])), (5, (.v (.int .i64 b255_), []))], [], []⟩) [] [0, 1, 5] [] [] (by kernel_rfl) ?_
                refine Wc.skip ?_
                refine Wc.seq ?_
                refine Wc.seq ?_
                obtain ⟨d263_, h224, h212⟩ := obind h212
                refine Wc.region [{}, {}, { v := some (.vptr [.int .i64 d263_.gHead.gKind, .str d263_.gHead.gName, .int .i64 d263_.gHead.gNum, .sl (List.map GTerm.c d263_.gHead.gKids), .int .i64 d263_.gBody.gKind, .str d263_.gBody.gName, .int .i64 d263_.gBody.gNum, .sl (List.map GTerm.c d263_.gBody.gKids), .str d263_.gFile]) }] [] [0, 1, 5, 60] [] [] ⟨[(0, (.v (.sl (List.map GClause.c e252_)), [])), (1, (.v (.int .i64 b262_), [])), (5, (.v (.int .i64 b255_), [])), (60, (.v (.bool (d263_.gBody.gKind != b262_)), []))], [], []⟩ _ (by kernel_rfl) (.cons (at_obl (c := GClause.c) (GClause.c_eq d263_) GClause.c_len h224) (.cons (len_ok 1 [.int .i64 d263_.gBody.gKind, .str d263_.gBody.gName, .int .i64 d263_.gBody.gNum, .sl (List.map GTerm.c d263_.gBody.gKids), .str d263_.gFile]) .nil)) ?_
                rcases oif h212 with ⟨h225, h212⟩ | ⟨h225, h212⟩
                · refine Wc.condT h225 (by kernel_rfl) ?_
                  refine Wc.seq ?_
                  refine Wc.region [] [] [4] [] [] ⟨[(4, (.v (.int .i64 (-1)), []))], [], []⟩ _ (by kernel_rfl) .nil ?_
                  refine Wc.ret ?_
                  obtain rfl := Option.some.inj h212
                  obtain rfl := Option.some.inj h
                  exact ⟨.inl rfl, by kernel_rfl, by kernel_rfl⟩
                · refine Wc.condF h225 (by kernel_rfl) ?_
                  refine Wc.fix (st' := ⟨[(0, (.v (.sl (List.map GClause.c e252_)), [])), (1, (.v (.int .i64 b262_), [])), (5, (.v (.int .i64 b255_), []))], [], []⟩) [] [0, 1, 5] [] [] (by kernel_rfl) ?_
                  refine Wc.skip ?_
                  refine Wc.seq ?_
                  refine Wc.region [] [] [0, 1, 5] [] [] ⟨[(0, (.v (.sl (List.map GClause.c e252_)), [])), (1, (.v (.int .i64 (wr.i64 (b262_ + 1))), [])), (5, (.v (.int .i64 b255_), []))], [], []⟩ _ (by kernel_rfl) .nil ?_
                  refine Wc.seq ?_
                  refine Wc.seq ?_
                  obtain ⟨d264_, h226, h212⟩ := obind h212
                  obtain ⟨g265_, h227, h212⟩ := obind h212
                  refine Wc.draw hmix [{}, {}, { v := some (.vptr [.int .i64 d264_.gHead.gKind, .str d264_.gHead.gName, .int .i64 d264_.gHead.gNum, .sl (List.map GTerm.c d264_.gHead.gKids), .int .i64 d264_.gBody.gKind, .str d264_.gBody.gName, .int .i64 d264_.gBody.gNum, .sl (List.map GTerm.c d264_.gBody.gKids), .str d264_.gFile]) }, {}, {}, {}, {}, { r := some (.v (.str g265_) []) }] [] [0, 1, 5, 71] [] [] ⟨[(0, (.v (.sl (List.map GClause.c e252_)), [])), (1, (.v (.int .i64 (wr.i64 (b262_ + 1))), [])), (5, (.v (.int .i64 b255_), [])), (71, (.v (.bool (!(sEq d264_.gBody.gName g265_))), []))], [], []⟩ _ (by kernel_rfl) (fun X => by kernel_rfl) (.cons (at_obl (c := GClause.c) (GClause.c_eq d264_) GClause.c_len h226) (.cons (len_ok 1 [.str d264_.gBody.gName, .int .i64 d264_.gBody.gNum, .sl (List.map GTerm.c d264_.gBody.gKids), .str d264_.gFile]) (.cons (claws_markText h227) .nil))) ?_
                  rcases oif h212 with ⟨h228, h212⟩ | ⟨h228, h212⟩
                  · refine Wc.condT h228 (by kernel_rfl) ?_
                    refine Wc.seq ?_
                    refine Wc.region [] [] [4] [] [] ⟨[(4, (.v (.int .i64 (-1)), []))], [], []⟩ _ (by kernel_rfl) .nil ?_
                    refine Wc.ret ?_
                    obtain rfl := Option.some.inj h212
                    obtain rfl := Option.some.inj h
                    exact ⟨.inl rfl, by kernel_rfl, by kernel_rfl⟩
                  · refine Wc.condF h228 (by kernel_rfl) ?_
                    refine Wc.fix (st' := ⟨[(0, (.v (.sl (List.map GClause.c e252_)), [])), (1, (.v (.int .i64 (wr.i64 (b262_ + 1))), [])), (5, (.v (.int .i64 b255_), []))], [], []⟩) [] [0, 1, 5] [] [] (by kernel_rfl) ?_
                    refine Wc.skip ?_
                    refine Wc.seq ?_
                    refine Wc.region [] [] [0, 1, 5] [] [] ⟨[(0, (.v (.sl (List.map GClause.c e252_)), [])), (1, (.v (.int .i64 (wr.i64 ((wr.i64 (b262_ + 1)) + 1))), [])), (5, (.v (.int .i64 b255_), []))], [], []⟩ _ (by kernel_rfl) .nil ?_
                    refine Wc.seq ?_
                    refine Wc.seq ?_
                    obtain ⟨d266_, h229, h212⟩ := obind h212
                    refine Wc.region [{}, {}, { v := some (.vptr [.int .i64 d266_.gHead.gKind, .str d266_.gHead.gName, .int .i64 d266_.gHead.gNum, .sl (List.map GTerm.c d266_.gHead.gKids), .int .i64 d266_.gBody.gKind, .str d266_.gBody.gName, .int .i64 d266_.gBody.gNum, .sl (List.map GTerm.c d266_.gBody.gKids), .str d266_.gFile]) }] [] [0, 1, 5, 81] [] [] ⟨[(0, (.v (.sl (List.map GClause.c e252_)), [])), (1, (.v (.int .i64 (wr.i64 ((wr.i64 (b262_ + 1)) + 1))), [])), (5, (.v (.int .i64 b255_), [])), (81, (.v (.bool (d266_.gBody.gNum != (wr.i64 ((wr.i64 (b262_ + 1)) + 1)))), []))], [], []⟩ _ (by kernel_rfl) (.cons (at_obl (c := GClause.c) (GClause.c_eq d266_) GClause.c_len h229) (.cons (len_ok 1 [.int .i64 d266_.gBody.gNum, .sl (List.map GTerm.c d266_.gBody.gKids), .str d266_.gFile]) .nil)) ?_
                    rcases oif h212 with ⟨h230, h212⟩ | ⟨h230, h212⟩
                    · refine Wc.condT h230 (by kernel_rfl) ?_
                      refine Wc.seq ?_
                      refine Wc.region [] [] [4] [] [] ⟨[(4, (.v (.int .i64 (-1)), []))], [], []⟩ _ (by kernel_rfl) .nil ?_
                      refine Wc.ret ?_
                      obtain rfl := Option.some.inj h212
                      obtain rfl := Option.some.inj h
                      exact ⟨.inl rfl, by kernel_rfl, by kernel_rfl⟩
                    · refine Wc.condF h230 (by kernel_rfl) ?_
                      refine Wc.fix (st' := ⟨[(0, (.v (.sl (List.map GClause.c e252_)), [])), (1, (.v (.int .i64 (wr.i64 ((wr.i64 (b262_ + 1)) + 1))), [])), (5, (.v (.int .i64 b255_), []))], [], []⟩) [] [0, 1, 5] [] [] (by kernel_rfl) ?_
                      refine Wc.skip ?_
                      refine Wc.seq ?_
                      refine Wc.region [] [] [0, 1, 5] [] [] ⟨[(0, (.v (.sl (List.map GClause.c e252_)), [])), (1, (.v (.int .i64 (wr.i64 ((wr.i64 ((wr.i64 (b262_ + 1)) + 1)) + 1))), [])), (5, (.v (.int .i64 b255_), []))], [], []⟩ _ (by kernel_rfl) .nil ?_
                      refine Wc.seq ?_
                      obtain ⟨d267_, h231, h212⟩ := obind h212
                      obtain ⟨b268_, h232, h212⟩ := obind h212
                      refine Wc.region [{}, {}, { v := some (.vptr [.int .i64 d267_.gHead.gKind, .str d267_.gHead.gName, .int .i64 d267_.gHead.gNum, .sl (List.map GTerm.c d267_.gHead.gKids), .int .i64 d267_.gBody.gKind, .str d267_.gBody.gName, .int .i64 d267_.gBody.gNum, .sl (List.map GTerm.c d267_.gBody.gKids), .str d267_.gFile]) }, {}, {}, {}, {}, { r := some (.v (.int .i64 b268_) []) }] [] [0, 1, 5] [] [] ⟨[(0, (.v (.sl (List.map GClause.c e252_)), [])), (1, (.v (.int .i64 b268_), [])), (5, (.v (.int .i64 b255_), []))], [], []⟩ _ (by kernel_rfl) (.cons (at_obl (c := GClause.c) (GClause.c_eq d267_) GClause.c_len h231) (.cons (len_ok 1 [.sl (List.map GTerm.c d267_.gBody.gKids), .str d267_.gFile]) (.cons (claws_heldTermS h232) .nil))) ?_
                      refine Wc.seq ?_
                      refine Wc.seq ?_
                      refine Wc.region [] [] [0, 1, 5, 93] [] [] ⟨[(0, (.v (.sl (List.map GClause.c e252_)), [])), (1, (.v (.int .i64 b268_), [])), (5, (.v (.int .i64 b255_), [])), (93, (.v (.bool (decide (b268_ < 0))), []))], [], []⟩ _ (by kernel_rfl) .nil ?_
                      rcases oif h212 with ⟨h233, h212⟩ | ⟨h233, h212⟩
                      · refine Wc.condT h233 (by kernel_rfl) ?_
                        refine Wc.seq ?_
                        refine Wc.region [] [] [4] [] [] ⟨[(4, (.v (.int .i64 (-1)), []))], [], []⟩ _ (by kernel_rfl) .nil ?_
                        refine Wc.ret ?_
                        obtain rfl := Option.some.inj h212
                        obtain rfl := Option.some.inj h
                        exact ⟨.inl rfl, by kernel_rfl, by kernel_rfl⟩
                      · refine Wc.condF h233 (by kernel_rfl) ?_
                        refine Wc.fix (st' := ⟨[(0, (.v (.sl (List.map GClause.c e252_)), [])), (1, (.v (.int .i64 b268_), [])), (5, (.v (.int .i64 b255_), []))], [], []⟩) [] [0, 1, 5] [] [] (by kernel_rfl) ?_
                        refine Wc.skip ?_
                        refine Wc.seq ?_
                        refine Wc.seq ?_
                        obtain ⟨d269_, h234, h212⟩ := obind h212
                        obtain ⟨g270_, h235, h212⟩ := obind h212
                        refine Wc.draw hmix [{}, {}, { v := some (.vptr [.int .i64 d269_.gHead.gKind, .str d269_.gHead.gName, .int .i64 d269_.gHead.gNum, .sl (List.map GTerm.c d269_.gHead.gKids), .int .i64 d269_.gBody.gKind, .str d269_.gBody.gName, .int .i64 d269_.gBody.gNum, .sl (List.map GTerm.c d269_.gBody.gKids), .str d269_.gFile]) }, {}, {}, {}, { r := some (.v (.str g270_) []) }] [] [0, 1, 5, 101] [] [] ⟨[(0, (.v (.sl (List.map GClause.c e252_)), [])), (1, (.v (.int .i64 b268_), [])), (5, (.v (.int .i64 b255_), [])), (101, (.v (.bool (!(sEq d269_.gFile g270_))), []))], [], []⟩ _ (by kernel_rfl) (fun X => by kernel_rfl) (.cons (at_obl (c := GClause.c) (GClause.c_eq d269_) GClause.c_len h234) (.cons (len_ok 1 [.str d269_.gFile]) (.cons (claws_markText h235) .nil))) ?_
                        rcases oif h212 with ⟨h236, h212⟩ | ⟨h236, h212⟩
                        · refine Wc.condT h236 (by kernel_rfl) ?_
                          refine Wc.seq ?_
                          refine Wc.region [] [] [4] [] [] ⟨[(4, (.v (.int .i64 (-1)), []))], [], []⟩ _ (by kernel_rfl) .nil ?_
                          refine Wc.ret ?_
                          obtain rfl := Option.some.inj h212
                          obtain rfl := Option.some.inj h
                          exact ⟨.inl rfl, by kernel_rfl, by kernel_rfl⟩
                        · refine Wc.condF h236 (by kernel_rfl) ?_
                          refine Wc.fix (st' := ⟨[(0, (.v (.sl (List.map GClause.c e252_)), [])), (1, (.v (.int .i64 b268_), [])), (5, (.v (.int .i64 b255_), []))], [], []⟩) [] [0, 1, 5] [] [] (by kernel_rfl) ?_
                          refine Wc.skip ?_
                          refine Wc.region [] [] [0, 1, 5] [] [] ⟨[(0, (.v (.sl (List.map GClause.c e252_)), [])), (1, (.v (.int .i64 (wr.i64 (b268_ + 1))), [])), (5, (.v (.int .i64 b255_), []))], [], []⟩ _ (by kernel_rfl) .nil ?_
                          refine Wc.region [] [] [0, 1, 5] [] [] ⟨[(0, (.v (.sl (List.map GClause.c e252_)), [])), (1, (.v (.int .i64 (wr.i64 (b268_ + 1))), [])), (5, (.v (.int .i64 (wr.i64 (b255_ + 1))), []))], [], []⟩ _ (by kernel_rfl) .nil ?_
                          exact ⟨_, Nat.lt_succ_self _, _, _, rfl, h212⟩
      · refine Wc.condF h213 (by kernel_rfl) ?_
        refine Wc.fix (st' := ⟨[(1, (.v (.int .i64 b254_), []))], [], []⟩) [] [1] [] [] (by kernel_rfl) ?_
        refine Wc.exit ?_
        obtain rfl := Option.some.inj h212
        exact ⟨_, rfl, rfl⟩
  · rintro st ⟨b256_, rfl, rfl⟩
    refine Wc.seq ?_
    refine Wc.region [] [] [4] [] [] ⟨[(4, (.v (.int .i64 b256_), []))], [], []⟩ _ (by kernel_rfl) .nil ?_
    refine Wc.ret ?_
    obtain rfl := Option.some.inj h
    exact ⟨.inl rfl, by kernel_rfl, by kernel_rfl⟩

def plaws_heldStringS_L1 (k : Nat) (f271_ : List ByteArray) : Nat → Int → Int → Option (Out Int Int)
  | 0, _, _ => none
  | m + 1, b273_, b274_ =>
    if (decide (b274_ < (f271_.length : Int))) = true then
      (at' f271_ b274_).bind fun g276_ =>
      (plaws_markText k b273_).bind fun g277_ =>
      if (!(sEq g276_ g277_)) = true then
        some (.ret (-1))
      else
        plaws_heldStringS_L1 k f271_ m (wr.i64 (b273_ + 1)) (wr.i64 (b274_ + 1))
    else
      some (.done b273_)
/-- laws.heldStringS -/
def plaws_heldStringS (k : Nat) (f271_ : List ByteArray) (b272_ : Int) : Option Int :=
  (plaws_heldStringS_L1 k f271_ k b272_ 0).bind fun out1 => match out1 with
  | .ret r => some r
  | .done b275_ =>
    some b275_
theorem claws_heldStringS {k : Nat} {f271_ : List ByteArray} {b272_ : Int} {r : Int} (h : plaws_heldStringS k f271_ b272_ = some r) : FnO Try.prog 49 [.v (.sl (List.map cS f271_)) [], .v (.int .i64 b272_) []] (.v (.int .i64 r) []) [] := by
  refine FnO.of Try.func49 (rfl : Try.f49.body = some _) (Nat.le_of_ble_eq_true (by kernel_rfl)) (Nat.le_of_ble_eq_true (by kernel_rfl)) ?_
  intro w0 X0 Fin pv0 pb gt
  unfold plaws_heldStringS at h
  refine Wc.seq ?_
  refine Wc.region [] [] [0, 1] [] [] ⟨[(0, (.v (.sl (List.map cS f271_)), [])), (1, (.v (.int .i64 b272_), []))], [], []⟩ _ (by kernel_rfl) .nil ?_
  refine Wc.seq ?_
  refine Wc.seq ?_
  refine Wc.region [] [] [0, 1, 5] [] [] ⟨[(0, (.v (.sl (List.map cS f271_)), [])), (1, (.v (.int .i64 b272_), [])), (5, (.v (.int .i64 0), []))], [], []⟩ _ (by kernel_rfl) .nil ?_
  obtain ⟨out1, h237, h⟩ := obind h
  refine Wc.lastJ (fun st => ∃ (b275_ : Int), out1 = .done b275_ ∧ st = ⟨[(1, (.v (.int .i64 b275_), []))], [], []⟩) ?_ ?_
  · refine Wc.block ?_
    refine Wc.loop (fun m st => ∃ (b273_ : Int) (b274_ : Int), st = ⟨[(0, (.v (.sl (List.map cS f271_)), [])), (1, (.v (.int .i64 b273_), [])), (5, (.v (.int .i64 b274_), []))], [], []⟩ ∧ plaws_heldStringS_L1 k f271_ m b273_ b274_ = some out1) ?_ k ⟨_, _, rfl, h237⟩
    rintro m st ⟨b273_, b274_, rfl, h237⟩
    cases m with
    | zero => exact (onone h237).elim
    | succ m =>
      refine Wc.seq ?_
      refine Wc.seq ?_
      refine Wc.region [{}, {}, { v := some (.int .i64 (f271_.length : Int)) }] [] [0, 1, 5, 9] [] [] ⟨[(0, (.v (.sl (List.map cS f271_)), [])), (1, (.v (.int .i64 b273_), [])), (5, (.v (.int .i64 b274_), [])), (9, (.v (.bool (decide (b274_ < (f271_.length : Int)))), []))], [], []⟩ _ (by kernel_rfl) (.cons (len_obl cS f271_) .nil) ?_
      rcases oif h237 with ⟨h238, h237⟩ | ⟨h238, h237⟩
      · refine Wc.condT h238 (by kernel_rfl) ?_
        refine Wc.fix (st' := ⟨[(0, (.v (.sl (List.map cS f271_)), [])), (1, (.v (.int .i64 b273_), [])), (5, (.v (.int .i64 b274_), []))], [], []⟩) [] [0, 1, 5] [] [] (by kernel_rfl) ?_
        refine Wc.skip ?_
        refine Wc.seq ?_
        refine Wc.block ?_
        refine Wc.seq ?_
        refine Wc.seq ?_
        obtain ⟨g276_, h239, h237⟩ := obind h237
        obtain ⟨g277_, h240, h237⟩ := obind h237
        refine Wc.draw hmix [{}, {}, { v := some (.vptr [.str g276_]) }, {}, {}, { r := some (.v (.str g277_) []) }] [] [0, 1, 5, 18] [] [] ⟨[(0, (.v (.sl (List.map cS f271_)), [])), (1, (.v (.int .i64 b273_), [])), (5, (.v (.int .i64 b274_), [])), (18, (.v (.bool (!(sEq g276_ g277_))), []))], [], []⟩ _ (by kernel_rfl) (fun X => by kernel_rfl) (.cons (at_obl (c := cS) rfl cS_len h239) (.cons (len_ok 1 [.str g276_]) (.cons (claws_markText h240) .nil))) ?_
        rcases oif h237 with ⟨h241, h237⟩ | ⟨h241, h237⟩
        · refine Wc.condT h241 (by kernel_rfl) ?_
          refine Wc.seq ?_
          refine Wc.region [] [] [4] [] [] ⟨[(4, (.v (.int .i64 (-1)), []))], [], []⟩ _ (by kernel_rfl) .nil ?_
          refine Wc.ret ?_
          obtain rfl := Option.some.inj h237
          obtain rfl := Option.some.inj h
          exact ⟨.inl rfl, by kernel_rfl, by kernel_rfl⟩
        · refine Wc.condF h241 (by kernel_rfl) ?_
          refine Wc.fix (st' := ⟨[(0, (.v (.sl (List.map cS f271_)), [])), (1, (.v (.int .i64 b273_), [])), (5, (.v (.int .i64 b274_), []))], [], []⟩) [] [0, 1, 5] [] [] (by kernel_rfl) ?_
          refine Wc.skip ?_
          refine Wc.region [] [] [0, 1, 5] [] [] ⟨[(0, (.v (.sl (List.map cS f271_)), [])), (1, (.v (.int .i64 (wr.i64 (b273_ + 1))), [])), (5, (.v (.int .i64 b274_), []))], [], []⟩ _ (by kernel_rfl) .nil ?_
          refine Wc.region [] [] [0, 1, 5] [] [] ⟨[(0, (.v (.sl (List.map cS f271_)), [])), (1, (.v (.int .i64 (wr.i64 (b273_ + 1))), [])), (5, (.v (.int .i64 (wr.i64 (b274_ + 1))), []))], [], []⟩ _ (by kernel_rfl) .nil ?_
          exact ⟨_, Nat.lt_succ_self _, _, _, rfl, h237⟩
      · refine Wc.condF h238 (by kernel_rfl) ?_
        refine Wc.fix (st' := ⟨[(1, (.v (.int .i64 b273_), []))], [], []⟩) [] [1] [] [] (by kernel_rfl) ?_
        refine Wc.exit ?_
        obtain rfl := Option.some.inj h237
        exact ⟨_, rfl, rfl⟩
  · rintro st ⟨b275_, rfl, rfl⟩
    refine Wc.seq ?_
    refine Wc.region [] [] [4] [] [] ⟨[(4, (.v (.int .i64 b275_), []))], [], []⟩ _ (by kernel_rfl) .nil ?_
    refine Wc.ret ?_
    obtain rfl := Option.some.inj h
    exact ⟨.inl rfl, by kernel_rfl, by kernel_rfl⟩

/-- laws.heldDb -/
def plaws_heldDb (k : Nat) (i278_ : GDb) (b279_ : Int) : Option Int :=
  (plaws_heldClauseS k i278_.gClauses b279_).bind fun b280_ =>
  if (decide (b280_ < 0)) = true then
    some (-1)
  else
    (plaws_heldStringS k i278_.gOpen b280_).bind fun b281_ =>
    if (decide (b281_ < 0)) = true then
      some (-1)
    else
      some b281_
theorem claws_heldDb {k : Nat} {i278_ : GDb} {b279_ : Int} {r : Int} (h : plaws_heldDb k i278_ b279_ = some r) : FnO Try.prog 12 [.v (.agg [.sl (List.map GClause.c i278_.gClauses), .sl (List.map cS i278_.gOpen)]) [], .v (.int .i64 b279_) []] (.v (.int .i64 r) []) [] := by
  refine FnO.of Try.func12 (rfl : Try.f12.body = some _) (Nat.le_of_ble_eq_true (by kernel_rfl)) (Nat.le_of_ble_eq_true (by kernel_rfl)) ?_
  intro w0 X0 Fin pv0 pb gt
  unfold plaws_heldDb at h
  refine Wc.seq ?_
  refine Wc.region [] [] [1, 2] [2] [] ⟨[(1, (.v (.int .i64 b279_), [])), (2, (.ptr 2 0, []))], [(2, .cells [.sl (List.map GClause.c i278_.gClauses), .sl (List.map cS i278_.gOpen)] [])], []⟩ _ (by kernel_rfl) .nil ?_
  refine Wc.seq ?_
  obtain ⟨b280_, h242, h⟩ := obind h
  refine Wc.region [{}, {}, {}, { r := some (.v (.int .i64 b280_) []) }] [] [1, 2] [2] [] ⟨[(1, (.v (.int .i64 b280_), [])), (2, (.ptr 2 0, []))], [(2, .cells [.sl (List.map GClause.c i278_.gClauses), .sl (List.map cS i278_.gOpen)] [])], []⟩ _ (by kernel_rfl) (.cons (claws_heldClauseS h242) .nil) ?_
  refine Wc.seq ?_
  refine Wc.seq ?_
  refine Wc.region [] [] [1, 2, 10] [2] [] ⟨[(1, (.v (.int .i64 b280_), [])), (2, (.ptr 2 0, [])), (10, (.v (.bool (decide (b280_ < 0))), []))], [(2, .cells [.sl (List.map GClause.c i278_.gClauses), .sl (List.map cS i278_.gOpen)] [])], []⟩ _ (by kernel_rfl) .nil ?_
  rcases oif h with ⟨h243, h⟩ | ⟨h243, h⟩
  · refine Wc.condT h243 (by kernel_rfl) ?_
    refine Wc.seq ?_
    refine Wc.region [] [] [4] [] [] ⟨[(4, (.v (.int .i64 (-1)), []))], [], []⟩ _ (by kernel_rfl) .nil ?_
    refine Wc.ret ?_
    obtain rfl := Option.some.inj h
    exact ⟨.inl rfl, by kernel_rfl, by kernel_rfl⟩
  · refine Wc.condF h243 (by kernel_rfl) ?_
    refine Wc.fix (st' := ⟨[(1, (.v (.int .i64 b280_), [])), (2, (.ptr 2 0, []))], [(2, .cells [.sl (List.map GClause.c i278_.gClauses), .sl (List.map cS i278_.gOpen)] [])], []⟩) [] [1, 2] [2] [] (by kernel_rfl) ?_
    refine Wc.skip ?_
    refine Wc.seq ?_
    obtain ⟨b281_, h244, h⟩ := obind h
    refine Wc.region [{}, {}, {}, { r := some (.v (.int .i64 b281_) []) }] [] [1] [] [] ⟨[(1, (.v (.int .i64 b281_), []))], [], []⟩ _ (by kernel_rfl) (.cons (claws_heldStringS h244) .nil) ?_
    refine Wc.seq ?_
    refine Wc.seq ?_
    refine Wc.region [] [] [1, 16] [] [] ⟨[(1, (.v (.int .i64 b281_), [])), (16, (.v (.bool (decide (b281_ < 0))), []))], [], []⟩ _ (by kernel_rfl) .nil ?_
    rcases oif h with ⟨h245, h⟩ | ⟨h245, h⟩
    · refine Wc.condT h245 (by kernel_rfl) ?_
      refine Wc.seq ?_
      refine Wc.region [] [] [4] [] [] ⟨[(4, (.v (.int .i64 (-1)), []))], [], []⟩ _ (by kernel_rfl) .nil ?_
      refine Wc.ret ?_
      obtain rfl := Option.some.inj h
      exact ⟨.inl rfl, by kernel_rfl, by kernel_rfl⟩
    · refine Wc.condF h245 (by kernel_rfl) ?_
      refine Wc.fix (st' := ⟨[(1, (.v (.int .i64 b281_), []))], [], []⟩) [] [1] [] [] (by kernel_rfl) ?_
      refine Wc.skip ?_
      refine Wc.seq ?_
      refine Wc.region [] [] [4] [] [] ⟨[(4, (.v (.int .i64 b281_), []))], [], []⟩ _ (by kernel_rfl) .nil ?_
      refine Wc.ret ?_
      obtain rfl := Option.some.inj h
      exact ⟨.inl rfl, by kernel_rfl, by kernel_rfl⟩

def pimpl_renamed_on1_pimpl_copyTerm_1_d_L2 (k : Nat) (rimpl_renamed_on1_pimpl_copyTerm_1_d : GTerm → Option GTerm) (c291_ : GTerm) : Nat → Int → GTerm → Option (Out GTerm GTerm)
  | 0, _, _ => none
  | m + 1, b293_, c294_ =>
    if (decide (b293_ < (c291_.gKids.length : Int))) = true then
      (at' c291_.gKids b293_).bind fun c296_ =>
      (rimpl_renamed_on1_pimpl_copyTerm_1_d c296_).bind fun c297_ =>
      if c294_.gKids.length + [c297_].length ≤ 1073741824 then
        pimpl_renamed_on1_pimpl_copyTerm_1_d_L2 k rimpl_renamed_on1_pimpl_copyTerm_1_d c291_ m (wr.i64 (b293_ + 1)) (GTerm.mk c294_.gKind c294_.gName c294_.gNum (c294_.gKids ++ [c297_]))
      else none
    else
      some (.done c294_)
def pimpl_renamed_on1_pimpl_copyTerm_1_d_J1 (k : Nat) (rimpl_renamed_on1_pimpl_copyTerm_1_d : GTerm → Option GTerm) (c291_ : GTerm) (c292_ : GTerm) : Option GTerm :=
  (pimpl_renamed_on1_pimpl_copyTerm_1_d_L2 k rimpl_renamed_on1_pimpl_copyTerm_1_d c291_ k 0 c292_).bind fun out2 => match out2 with
  | .ret r => some r
  | .done c295_ =>
    some c295_
mutual
/-- impl.renamed -/
def pimpl_renamed_on1_pimpl_copyTerm_1_d : Nat → GTerm → Option GTerm
  | 0, _ => none
  | k + 1, c291_ =>
    if (c291_.gKind == 1) = true then
      (pimpl_copyTerm_1 k c291_.gNum).bind fun b298_ =>
      pimpl_renamed_on1_pimpl_copyTerm_1_d_J1 k (pimpl_renamed_on1_pimpl_copyTerm_1_d k) c291_ (GTerm.mk c291_.gKind c291_.gName b298_ [])
    else
      pimpl_renamed_on1_pimpl_copyTerm_1_d_J1 k (pimpl_renamed_on1_pimpl_copyTerm_1_d k) c291_ (GTerm.mk c291_.gKind c291_.gName c291_.gNum [])
end
set_option maxHeartbeats 4000000 in
theorem all_pimpl_renamed_on1_pimpl_copyTerm_1_d : ∀ k : Nat, (∀ {c291_ : GTerm} {r : GTerm}, pimpl_renamed_on1_pimpl_copyTerm_1_d k c291_ = some r → FnO Try.prog 112 [.v (.agg [.int .i64 c291_.gKind, .str c291_.gName, .int .i64 c291_.gNum, .sl (List.map GTerm.c c291_.gKids)]) [], .v (.func 113 []) []] (.v (.agg [.int .i64 r.gKind, .str r.gName, .int .i64 r.gNum, .slx]) [(3, .ex 41 true (List.map GTerm.c r.gKids))]) []) := by
  intro k
  induction k with
  | zero =>
    · intro c291_ r h
      exact (onone (by rw [pimpl_renamed_on1_pimpl_copyTerm_1_d] at h; exact h)).elim
  | succ k ih =>
    have ih_pimpl_renamed_on1_pimpl_copyTerm_1_d := @ih
    · intro c291_ r h
      rw [pimpl_renamed_on1_pimpl_copyTerm_1_d] at h
      refine FnO.of Try.func112 (rfl : Try.f112.body = some _) (Nat.le_of_ble_eq_true (by kernel_rfl)) (Nat.le_of_ble_eq_true (by kernel_rfl)) ?_
      intro w0 X0 Fin pv0 pb gt
      refine Wc.seq ?_
      refine Wc.region [] [] [1, 2, 4] [2, 4] [] ⟨[(1, (.v (.func 113 []), [])), (2, (.ptr 2 0, [])), (4, (.ptr 4 0, []))], [(2, .cells [.int .i64 c291_.gKind, .str c291_.gName, .int .i64 c291_.gNum, .sl (List.map GTerm.c c291_.gKids)] []), (4, .cells [.int .i64 0, .str (bs []), .int .i64 0, .sl (List.map GTerm.c [])] [(3, .app 41)])], []⟩ _ (by kernel_rfl) .nil ?_
      refine Wc.seq ?_
      refine Wc.region [] [] [1, 2, 4, 5] [2, 4, 5] [] ⟨[(1, (.v (.func 113 []), [])), (2, (.ptr 2 0, [])), (4, (.ptr 4 0, [])), (5, (.ptr 5 0, []))], [(2, .cells [.int .i64 c291_.gKind, .str c291_.gName, .int .i64 c291_.gNum, .sl (List.map GTerm.c c291_.gKids)] []), (4, .cells [.int .i64 0, .str (bs []), .int .i64 0, .sl (List.map GTerm.c [])] [(3, .app 41)]), (5, .cells [.int .i64 c291_.gKind, .str c291_.gName, .int .i64 c291_.gNum, .sl (List.map GTerm.c c291_.gKids)] [])], []⟩ _ (by kernel_rfl) .nil ?_
      refine Wc.seq ?_
      refine Wc.region [] [] [1, 2, 4, 5] [2, 4, 5] [] ⟨[(1, (.v (.func 113 []), [])), (2, (.ptr 2 0, [])), (4, (.ptr 4 0, [])), (5, (.ptr 5 0, []))], [(2, .cells [.int .i64 c291_.gKind, .str c291_.gName, .int .i64 c291_.gNum, .sl (List.map GTerm.c c291_.gKids)] []), (4, .cells [.int .i64 0, .str (bs []), .int .i64 0, .sl (List.map GTerm.c [])] [(3, .app 41)]), (5, .cells [.int .i64 c291_.gKind, .str c291_.gName, .int .i64 c291_.gNum, .sl (List.map GTerm.c [])] [(3, .app 41)])], []⟩ _ (by kernel_rfl) .nil ?_
      refine Wc.seqJ (fun st => ∃ (c292_ : GTerm), st = ⟨[(1, (.v (.func 113 []), [])), (2, (.ptr 2 0, [])), (4, (.ptr 4 0, [])), (5, (.ptr 5 0, []))], [(2, .cells [.int .i64 c291_.gKind, .str c291_.gName, .int .i64 c291_.gNum, .sl (List.map GTerm.c c291_.gKids)] []), (4, .cells [.int .i64 0, .str (bs []), .int .i64 0, .slx] [(3, .ex 41 true (List.map GTerm.c []))]), (5, .cells [.int .i64 c292_.gKind, .str c292_.gName, .int .i64 c292_.gNum, .slx] [(3, .ex 41 true (List.map GTerm.c c292_.gKids))])], []⟩ ∧ pimpl_renamed_on1_pimpl_copyTerm_1_d_J1 k (pimpl_renamed_on1_pimpl_copyTerm_1_d k) c291_ c292_ = some r) ?_ ?_
      · refine Wc.seq ?_
        refine Wc.region [] [] [1, 2, 4, 5, 12] [2, 4, 5] [] ⟨[(1, (.v (.func 113 []), [])), (2, (.ptr 2 0, [])), (4, (.ptr 4 0, [])), (5, (.ptr 5 0, [])), (12, (.v (.bool (c291_.gKind == 1)), []))], [(2, .cells [.int .i64 c291_.gKind, .str c291_.gName, .int .i64 c291_.gNum, .sl (List.map GTerm.c c291_.gKids)] []), (4, .cells [.int .i64 0, .str (bs []), .int .i64 0, .sl (List.map GTerm.c [])] [(3, .app 41)]), (5, .cells [.int .i64 c291_.gKind, .str c291_.gName, .int .i64 c291_.gNum, .sl (List.map GTerm.c [])] [(3, .app 41)])], []⟩ _ (by kernel_rfl) .nil ?_
        rcases oif h with ⟨h258, h⟩ | ⟨h258, h⟩
        · refine Wc.condT h258 (by kernel_rfl) ?_
          obtain ⟨b298_, h259, h⟩ := obind h
          refine Wc.region [{}, {}, {}, { r := some (.v (.int .i64 b298_) []) }] [.ow (.b 4 3) true, .ow (.b 5 3) true] [1, 2, 4, 5] [2, 4, 5] [] ⟨[(1, (.v (.func 113 []), [])), (2, (.ptr 2 0, [])), (4, (.ptr 4 0, [])), (5, (.ptr 5 0, []))], [(2, .cells [.int .i64 c291_.gKind, .str c291_.gName, .int .i64 c291_.gNum, .sl (List.map GTerm.c c291_.gKids)] []), (4, .cells [.int .i64 0, .str (bs []), .int .i64 0, .slx] [(3, .ex 41 true (List.map GTerm.c []))]), (5, .cells [.int .i64 c291_.gKind, .str c291_.gName, .int .i64 b298_, .slx] [(3, .ex 41 true (List.map GTerm.c []))])], []⟩ _ (by kernel_rfl) (.cons (cimpl_copyTerm_1 h259) .nil) ?_
          exact ⟨_, rfl, h⟩
        · refine Wc.condF h258 (by kernel_rfl) ?_
          refine Wc.fix (st' := ⟨[(1, (.v (.func 113 []), [])), (2, (.ptr 2 0, [])), (4, (.ptr 4 0, [])), (5, (.ptr 5 0, []))], [(2, .cells [.int .i64 c291_.gKind, .str c291_.gName, .int .i64 c291_.gNum, .sl (List.map GTerm.c c291_.gKids)] []), (4, .cells [.int .i64 0, .str (bs []), .int .i64 0, .slx] [(3, .ex 41 true (List.map GTerm.c []))]), (5, .cells [.int .i64 c291_.gKind, .str c291_.gName, .int .i64 c291_.gNum, .slx] [(3, .ex 41 true (List.map GTerm.c []))])], []⟩) [.ow (.b 4 3) true, .ow (.b 5 3) true] [1, 2, 4, 5] [2, 4, 5] [] (by kernel_rfl) ?_
          refine Wc.skip ?_
          exact ⟨_, rfl, h⟩
      · rintro st ⟨c292_, rfl, h⟩
        refine Wc.seq ?_
        refine Wc.seq ?_
        refine Wc.region [{}, {}, { v := some (.int .i64 (c291_.gKids.length : Int)) }] [] [1, 4, 5, 19, 20, 21] [4, 5] [] ⟨[(1, (.v (.func 113 []), [])), (4, (.ptr 4 0, [])), (5, (.ptr 5 0, [])), (19, (.v (.sl (List.map GTerm.c c291_.gKids)), [])), (20, (.v (.int .i64 (c291_.gKids.length : Int)), [])), (21, (.v (.int .i64 0), []))], [(4, .cells [.int .i64 0, .str (bs []), .int .i64 0, .slx] [(3, .ex 41 true (List.map GTerm.c []))]), (5, .cells [.int .i64 c292_.gKind, .str c292_.gName, .int .i64 c292_.gNum, .slx] [(3, .ex 41 true (List.map GTerm.c c292_.gKids))])], []⟩ _ (by kernel_rfl) (.cons (len_obl GTerm.c c291_.gKids) .nil) ?_
        obtain ⟨out2, h253, h⟩ := obind h
        refine Wc.lastJ (fun st => ∃ (c295_ : GTerm), out2 = .done c295_ ∧ st = ⟨[(4, (.ptr 4 0, [])), (5, (.ptr 5 0, []))], [(4, .cells [.int .i64 0, .str (bs []), .int .i64 0, .slx] [(3, .ex 41 true (List.map GTerm.c []))]), (5, .cells [.int .i64 c295_.gKind, .str c295_.gName, .int .i64 c295_.gNum, .slx] [(3, .ex 41 true (List.map GTerm.c c295_.gKids))])], []⟩) ?_ ?_
        · refine Wc.block ?_
          refine Wc.loop (fun m st => ∃ (b293_ : Int) (c294_ : GTerm), st = ⟨[(1, (.v (.func 113 []), [])), (4, (.ptr 4 0, [])), (5, (.ptr 5 0, [])), (19, (.v (.sl (List.map GTerm.c c291_.gKids)), [])), (20, (.v (.int .i64 (c291_.gKids.length : Int)), [])), (21, (.v (.int .i64 b293_), []))], [(4, .cells [.int .i64 0, .str (bs []), .int .i64 0, .slx] [(3, .ex 41 true (List.map GTerm.c []))]), (5, .cells [.int .i64 c294_.gKind, .str c294_.gName, .int .i64 c294_.gNum, .slx] [(3, .ex 41 true (List.map GTerm.c c294_.gKids))])], []⟩ ∧ pimpl_renamed_on1_pimpl_copyTerm_1_d_L2 k (pimpl_renamed_on1_pimpl_copyTerm_1_d k) c291_ m b293_ c294_ = some out2) ?_ k ⟨_, _, rfl, h253⟩
          rintro m st ⟨b293_, c294_, rfl, h253⟩
          cases m with
          | zero => exact (onone h253).elim
          | succ m =>
            refine Wc.seq ?_
            refine Wc.region [] [] [1, 4, 5, 19, 20, 21, 22] [4, 5] [] ⟨[(1, (.v (.func 113 []), [])), (4, (.ptr 4 0, [])), (5, (.ptr 5 0, [])), (19, (.v (.sl (List.map GTerm.c c291_.gKids)), [])), (20, (.v (.int .i64 (c291_.gKids.length : Int)), [])), (21, (.v (.int .i64 b293_), [])), (22, (.v (.bool (decide (b293_ < (c291_.gKids.length : Int)))), []))], [(4, .cells [.int .i64 0, .str (bs []), .int .i64 0, .slx] [(3, .ex 41 true (List.map GTerm.c []))]), (5, .cells [.int .i64 c294_.gKind, .str c294_.gName, .int .i64 c294_.gNum, .slx] [(3, .ex 41 true (List.map GTerm.c c294_.gKids))])], []⟩ _ (by kernel_rfl) .nil ?_
            refine Wc.seq ?_
            rcases oif h253 with ⟨h254, h253⟩ | ⟨h254, h253⟩
            · refine Wc.condT h254 (by kernel_rfl) ?_
              refine Wc.fix (st' := ⟨[(1, (.v (.func 113 []), [])), (4, (.ptr 4 0, [])), (5, (.ptr 5 0, [])), (19, (.v (.sl (List.map GTerm.c c291_.gKids)), [])), (20, (.v (.int .i64 (c291_.gKids.length : Int)), [])), (21, (.v (.int .i64 b293_), []))], [(4, .cells [.int .i64 0, .str (bs []), .int .i64 0, .slx] [(3, .ex 41 true (List.map GTerm.c []))]), (5, .cells [.int .i64 c294_.gKind, .str c294_.gName, .int .i64 c294_.gNum, .slx] [(3, .ex 41 true (List.map GTerm.c c294_.gKids))])], []⟩) [] [1, 4, 5, 19, 20, 21] [4, 5] [] (by kernel_rfl) ?_
              refine Wc.skip ?_
              refine Wc.seq ?_
              refine Wc.block ?_
              refine Wc.seq ?_
              obtain ⟨c296_, h255, h253⟩ := obind h253
              refine Wc.region [{ v := some (.vptr [.int .i64 c296_.gKind, .str c296_.gName, .int .i64 c296_.gNum, .sl (List.map GTerm.c c296_.gKids)]) }] [] [1, 4, 5, 7, 19, 20, 21] [4, 5, 7] [] ⟨[(1, (.v (.func 113 []), [])), (4, (.ptr 4 0, [])), (5, (.ptr 5 0, [])), (7, (.ptr 7 0, [])), (19, (.v (.sl (List.map GTerm.c c291_.gKids)), [])), (20, (.v (.int .i64 (c291_.gKids.length : Int)), [])), (21, (.v (.int .i64 b293_), []))], [(4, .cells [.int .i64 0, .str (bs []), .int .i64 0, .slx] [(3, .ex 41 true (List.map GTerm.c []))]), (5, .cells [.int .i64 c294_.gKind, .str c294_.gName, .int .i64 c294_.gNum, .slx] [(3, .ex 41 true (List.map GTerm.c c294_.gKids))]), (7, .cells [.int .i64 c296_.gKind, .str c296_.gName, .int .i64 c296_.gNum, .sl (List.map GTerm.c c296_.gKids)] [])], []⟩ _ (by kernel_rfl) (.cons (at_obl (c := GTerm.c) (GTerm.c_eq c296_) GTerm.c_len h255) (.cons (len_ok 4 [.int .i64 c296_.gKind, .str c296_.gName, .int .i64 c296_.gNum, .sl (List.map GTerm.c c296_.gKids)]) .nil)) ?_
              obtain ⟨c297_, h256, h253⟩ := obind h253
              obtain ⟨h257, h253⟩ := oguard h253
              refine Wc.draw hmix [{}, { md := 1 }, {}, {}, { r := some (.v (.agg [.int .i64 c297_.gKind, .str c297_.gName, .int .i64 c297_.gNum, .slx]) [(3, .ex 41 true (List.map GTerm.c c297_.gKids))]) }, { c := some (List.map GTerm.c [c297_]), tk := [29], md := 2 }, { c := some (List.map GTerm.c (c294_.gKids ++ [c297_])), tk := [26, 30], md := 2 }, {}, { tk := [31] }] [] [1, 4, 5, 19, 20, 21] [4, 5] [] ⟨[(1, (.v (.func 113 []), [])), (4, (.ptr 4 0, [])), (5, (.ptr 5 0, [])), (19, (.v (.sl (List.map GTerm.c c291_.gKids)), [])), (20, (.v (.int .i64 (c291_.gKids.length : Int)), [])), (21, (.v (.int .i64 b293_), []))], [(4, .cells [.int .i64 0, .str (bs []), .int .i64 0, .slx] [(3, .ex 41 true (List.map GTerm.c []))]), (5, .cells [.int .i64 c294_.gKind, .str c294_.gName, .int .i64 c294_.gNum, .slx] [(3, .ex 41 true (List.map GTerm.c (c294_.gKids ++ [c297_])))])], []⟩ _ (by kernel_rfl) (fun X => by kernel_rfl) (.cons (ih_pimpl_renamed_on1_pimpl_copyTerm_1_d h256) (.cons (cl_cons (c := GTerm.c) (x := c297_) (GTerm.c_eq c297_) (cl_nil GTerm.c)) (.cons (app_re2 GTerm.c c294_.gKids [c297_]) (.cons (app_obl2 (c := GTerm.c) (xs := c294_.gKids) (ys := [c297_]) GTerm.c_len h257) .nil)))) ?_
              refine Wc.region [] [] [1, 4, 5, 19, 20, 21] [4, 5] [] ⟨[(1, (.v (.func 113 []), [])), (4, (.ptr 4 0, [])), (5, (.ptr 5 0, [])), (19, (.v (.sl (List.map GTerm.c c291_.gKids)), [])), (20, (.v (.int .i64 (c291_.gKids.length : Int)), [])), (21, (.v (.int .i64 (wr.i64 (b293_ + 1))), []))], [(4, .cells [.int .i64 0, .str (bs []), .int .i64 0, .slx] [(3, .ex 41 true (List.map GTerm.c []))]), (5, .cells [.int .i64 c294_.gKind, .str c294_.gName, .int .i64 c294_.gNum, .slx] [(3, .ex 41 true (List.map GTerm.c (c294_.gKids ++ [c297_])))])], []⟩ _ (by kernel_rfl) .nil ?_
              exact ⟨_, Nat.lt_succ_self _, _, _, rfl, h253⟩
            · refine Wc.condF h254 (by kernel_rfl) ?_
              refine Wc.fix (st' := ⟨[(4, (.ptr 4 0, [])), (5, (.ptr 5 0, []))], [(4, .cells [.int .i64 0, .str (bs []), .int .i64 0, .slx] [(3, .ex 41 true (List.map GTerm.c []))]), (5, .cells [.int .i64 c294_.gKind, .str c294_.gName, .int .i64 c294_.gNum, .slx] [(3, .ex 41 true (List.map GTerm.c c294_.gKids))])], []⟩) [] [4, 5] [4, 5] [] (by kernel_rfl) ?_
              refine Wc.exit ?_
              obtain rfl := Option.some.inj h253
              exact ⟨_, rfl, rfl⟩
        · rintro st ⟨c295_, rfl, rfl⟩
          refine Wc.seq ?_
          refine Wc.region [{ md := 1 }, { tk := [34] }] [] [4] [4] [] ⟨[(4, (.ptr 4 0, []))], [(4, .cells [.int .i64 c295_.gKind, .str c295_.gName, .int .i64 c295_.gNum, .slx] [(3, .ex 41 true (List.map GTerm.c c295_.gKids))])], []⟩ _ (by kernel_rfl) .nil ?_
          refine Wc.ret ?_
          obtain rfl := Option.some.inj h
          exact ⟨.inl rfl, by kernel_rfl, by kernel_rfl⟩
theorem cimpl_renamed_on1_pimpl_copyTerm_1_d {k : Nat} {c291_ : GTerm} {r : GTerm} (h : pimpl_renamed_on1_pimpl_copyTerm_1_d k c291_ = some r) : FnO Try.prog 112 [.v (.agg [.int .i64 c291_.gKind, .str c291_.gName, .int .i64 c291_.gNum, .sl (List.map GTerm.c c291_.gKids)]) [], .v (.func 113 []) []] (.v (.agg [.int .i64 r.gKind, .str r.gName, .int .i64 r.gNum, .slx]) [(3, .ex 41 true (List.map GTerm.c r.gKids))]) [] := (all_pimpl_renamed_on1_pimpl_copyTerm_1_d k) h

/-- impl.copyTerm -/
def pimpl_copyTerm_d (k : Nat) (c285_ : GTerm) : Option GTerm :=
  (pimpl_renamed_on1_pimpl_copyTerm_1_d k c285_).bind fun c286_ =>
  some c286_
theorem cimpl_copyTerm_d {k : Nat} {c285_ : GTerm} {r : GTerm} (h : pimpl_copyTerm_d k c285_ = some r) : FnO Try.prog 78 [.v (.agg [.int .i64 c285_.gKind, .str c285_.gName, .int .i64 c285_.gNum, .sl (List.map GTerm.c c285_.gKids)]) []] (.v (.agg [.int .i64 r.gKind, .str r.gName, .int .i64 r.gNum, .slx]) [(3, .ex 41 true (List.map GTerm.c r.gKids))]) [] := by
  refine FnO.of Try.func78 (rfl : Try.f78.body = some _) (Nat.le_of_ble_eq_true (by kernel_rfl)) (Nat.le_of_ble_eq_true (by kernel_rfl)) ?_
  intro w0 X0 Fin pv0 pb gt
  unfold pimpl_copyTerm_d at h
  refine Wc.seq ?_
  refine Wc.region [] [] [1, 2] [1, 2] [] ⟨[(1, (.ptr 1 0, [])), (2, (.ptr 2 0, []))], [(1, .cells [.int .i64 c285_.gKind, .str c285_.gName, .int .i64 c285_.gNum, .sl (List.map GTerm.c c285_.gKids)] []), (2, .cells [.int .i64 0, .str (bs []), .int .i64 0, .sl (List.map GTerm.c [])] [(3, .app 41)])], []⟩ _ (by kernel_rfl) .nil ?_
  refine Wc.seq ?_
  obtain ⟨c286_, h247, h⟩ := obind h
  refine Wc.region [{}, { r := some (.v (.agg [.int .i64 c286_.gKind, .str c286_.gName, .int .i64 c286_.gNum, .slx]) [(3, .ex 41 true (List.map GTerm.c c286_.gKids))]) }, { tk := [4] }] [] [2] [2] [] ⟨[(2, (.ptr 2 0, []))], [(2, .cells [.int .i64 c286_.gKind, .str c286_.gName, .int .i64 c286_.gNum, .slx] [(3, .ex 41 true (List.map GTerm.c c286_.gKids))])], []⟩ _ (by kernel_rfl) (.cons (cimpl_renamed_on1_pimpl_copyTerm_1_d h247) .nil) ?_
  refine Wc.ret ?_
  obtain rfl := Option.some.inj h
  exact ⟨.inl rfl, by kernel_rfl, by kernel_rfl⟩

/-- impl.copyClause -/
def pimpl_copyClause_d (k : Nat) (d289_ : GClause) : Option GClause :=
  (pimpl_copyTerm_d k d289_.gHead).bind fun c290_ =>
  (pimpl_copyTerm_d k d289_.gBody).bind fun c291_ =>
  some (GClause.mk c290_ c291_ d289_.gFile)
theorem cimpl_copyClause_d {k : Nat} {d289_ : GClause} {r : GClause} (h : pimpl_copyClause_d k d289_ = some r) : FnO Try.prog 117 [.v (.agg [.int .i64 d289_.gHead.gKind, .str d289_.gHead.gName, .int .i64 d289_.gHead.gNum, .sl (List.map GTerm.c d289_.gHead.gKids), .int .i64 d289_.gBody.gKind, .str d289_.gBody.gName, .int .i64 d289_.gBody.gNum, .sl (List.map GTerm.c d289_.gBody.gKids), .str d289_.gFile]) []] (.v (.agg [.int .i64 r.gHead.gKind, .str r.gHead.gName, .int .i64 r.gHead.gNum, .slx, .int .i64 r.gBody.gKind, .str r.gBody.gName, .int .i64 r.gBody.gNum, .slx, .str r.gFile]) [(3, .ex 41 true (List.map GTerm.c r.gHead.gKids)), (7, .ex 41 true (List.map GTerm.c r.gBody.gKids))]) [] := by
  refine FnO.of Try.func117 (rfl : Try.f117.body = some _) (Nat.le_of_ble_eq_true (by kernel_rfl)) (Nat.le_of_ble_eq_true (by kernel_rfl)) ?_
  intro w0 X0 Fin pv0 pb gt
  unfold pimpl_copyClause_d at h
  refine Wc.seq ?_
  refine Wc.region [] [] [1, 2] [1, 2] [] ⟨[(1, (.ptr 1 0, [])), (2, (.ptr 2 0, []))], [(1, .cells [.int .i64 d289_.gHead.gKind, .str d289_.gHead.gName, .int .i64 d289_.gHead.gNum, .sl (List.map GTerm.c d289_.gHead.gKids), .int .i64 d289_.gBody.gKind, .str d289_.gBody.gName, .int .i64 d289_.gBody.gNum, .sl (List.map GTerm.c d289_.gBody.gKids), .str d289_.gFile] []), (2, .cells [.int .i64 0, .str (bs []), .int .i64 0, .sl (List.map GTerm.c []), .int .i64 0, .str (bs []), .int .i64 0, .sl (List.map GTerm.c []), .str (bs [])] [(3, .app 41), (7, .app 41)])], []⟩ _ (by kernel_rfl) .nil ?_
  refine Wc.seq ?_
  obtain ⟨c290_, h250, h⟩ := obind h
  obtain ⟨c291_, h251, h⟩ := obind h
  refine Wc.draw hmix [{}, {}, { r := some (.v (.agg [.int .i64 c290_.gKind, .str c290_.gName, .int .i64 c290_.gNum, .slx]) [(3, .ex 41 true (List.map GTerm.c c290_.gKids))]) }, {}, {}, { r := some (.v (.agg [.int .i64 c291_.gKind, .str c291_.gName, .int .i64 c291_.gNum, .slx]) [(3, .ex 41 true (List.map GTerm.c c291_.gKids))]) }, {}, {}, { tk := [5, 8] }, { tk := [11] }] [] [2] [2] [] ⟨[(2, (.ptr 2 0, []))], [(2, .cells [.int .i64 c290_.gKind, .str c290_.gName, .int .i64 c290_.gNum, .slx, .int .i64 c291_.gKind, .str c291_.gName, .int .i64 c291_.gNum, .slx, .str d289_.gFile] [(3, .ex 41 true (List.map GTerm.c c290_.gKids)), (7, .ex 41 true (List.map GTerm.c c291_.gKids))])], []⟩ _ (by kernel_rfl) (fun X => by kernel_rfl) (.cons (cimpl_copyTerm_d h250) (.cons (cimpl_copyTerm_d h251) .nil)) ?_
  refine Wc.ret ?_
  obtain rfl := Option.some.inj h
  exact ⟨.inl rfl, by kernel_rfl, by kernel_rfl⟩

def pimpl_copyClauses_d_L1 (k : Nat) (e289_ : List GClause) : Nat → (List GClause) → Int → Option (Out (List GClause) (List GClause))
  | 0, _, _ => none
  | m + 1, e290_, b291_ =>
    if (decide (b291_ < (e289_.length : Int))) = true then
      (at' e289_ b291_).bind fun d293_ =>
      (pimpl_copyClause_d k d293_).bind fun d294_ =>
      if e290_.length + [d294_].length ≤ 1073741824 then
        pimpl_copyClauses_d_L1 k e289_ m (e290_ ++ [d294_]) (wr.i64 (b291_ + 1))
      else none
    else
      some (.done e290_)
/-- impl.copyClauses -/
def pimpl_copyClauses_d (k : Nat) (e289_ : List GClause) : Option (List GClause) :=
  (pimpl_copyClauses_d_L1 k e289_ k [] 0).bind fun out1 => match out1 with
  | .ret r => some r
  | .done e292_ =>
    some e292_
theorem cimpl_copyClauses_d {k : Nat} {e289_ : List GClause} {r : (List GClause)} (h : pimpl_copyClauses_d k e289_ = some r) : FnO Try.prog 85 [.v (.sl (List.map GClause.c e289_)) []] (.v (.slx) [(0, .ex 70 true (List.map GClause.c r))]) [] := by
  refine FnO.of Try.func85 (rfl : Try.f85.body = some _) (Nat.le_of_ble_eq_true (by kernel_rfl)) (Nat.le_of_ble_eq_true (by kernel_rfl)) ?_
  intro w0 X0 Fin pv0 pb gt
  unfold pimpl_copyClauses_d at h
  refine Wc.seq ?_
  refine Wc.region [] [] [0] [] [] ⟨[(0, (.v (.sl (List.map GClause.c e289_)), []))], [], []⟩ _ (by kernel_rfl) .nil ?_
  refine Wc.seq ?_
  refine Wc.region [] [] [0, 3] [] [] ⟨[(0, (.v (.sl (List.map GClause.c e289_)), [])), (3, (.v (.sl (List.map GClause.c [])), [(0, .app 70)]))], [], []⟩ _ (by kernel_rfl) .nil ?_
  refine Wc.seq ?_
  refine Wc.seq ?_
  refine Wc.region [{}, { v := some (.int .i64 (e289_.length : Int)) }] [] [3, 6, 7, 8] [] [] ⟨[(3, (.v (.sl (List.map GClause.c [])), [(0, .app 70)])), (6, (.v (.sl (List.map GClause.c e289_)), [])), (7, (.v (.int .i64 (e289_.length : Int)), [])), (8, (.v (.int .i64 0), []))], [], []⟩ _ (by kernel_rfl) (.cons (len_obl GClause.c e289_) .nil) ?_
  obtain ⟨out1, h251, h⟩ := obind h
  refine Wc.lastJ (fun st => ∃ (e292_ : List GClause), out1 = .done e292_ ∧ st = ⟨[(3, (.v (.slx), [(0, .ex 70 true (List.map GClause.c e292_))]))], [], []⟩) ?_ ?_
  · refine Wc.block ?_
    refine Wc.fix (st' := ⟨[(3, (.v (.slx), [(0, .ex 70 true (List.map GClause.c []))])), (6, (.v (.sl (List.map GClause.c e289_)), [])), (7, (.v (.int .i64 (e289_.length : Int)), [])), (8, (.v (.int .i64 0), []))], [], []⟩) [.ow (.t 3 0) true] [3, 6, 7, 8] [] [] (by kernel_rfl) ?_
    refine Wc.loop (fun m st => ∃ (e290_ : List GClause) (b291_ : Int), st = ⟨[(3, (.v (.slx), [(0, .ex 70 true (List.map GClause.c e290_))])), (6, (.v (.sl (List.map GClause.c e289_)), [])), (7, (.v (.int .i64 (e289_.length : Int)), [])), (8, (.v (.int .i64 b291_), []))], [], []⟩ ∧ pimpl_copyClauses_d_L1 k e289_ m e290_ b291_ = some out1) ?_ k ⟨_, _, rfl, h251⟩
    rintro m st ⟨e290_, b291_, rfl, h251⟩
    cases m with
    | zero => exact (onone h251).elim
    | succ m =>
      refine Wc.seq ?_
      refine Wc.region [] [] [3, 6, 7, 8, 9] [] [] ⟨[(3, (.v (.slx), [(0, .ex 70 true (List.map GClause.c e290_))])), (6, (.v (.sl (List.map GClause.c e289_)), [])), (7, (.v (.int .i64 (e289_.length : Int)), [])), (8, (.v (.int .i64 b291_), [])), (9, (.v (.bool (decide (b291_ < (e289_.length : Int)))), []))], [], []⟩ _ (by kernel_rfl) .nil ?_
      refine Wc.seq ?_
      rcases oif h251 with ⟨h252, h251⟩ | ⟨h252, h251⟩
      · refine Wc.condT h252 (by kernel_rfl) ?_
        refine Wc.fix (st' := ⟨[(3, (.v (.slx), [(0, .ex 70 true (List.map GClause.c e290_))])), (6, (.v (.sl (List.map GClause.c e289_)), [])), (7, (.v (.int .i64 (e289_.length : Int)), [])), (8, (.v (.int .i64 b291_), []))], [], []⟩) [] [3, 6, 7, 8] [] [] (by kernel_rfl) ?_
        refine Wc.skip ?_
        refine Wc.seq ?_
        refine Wc.block ?_
        refine Wc.seq ?_
        obtain ⟨d293_, h253, h251⟩ := obind h251
        refine Wc.region [{ v := some (.vptr [.int .i64 d293_.gHead.gKind, .str d293_.gHead.gName, .int .i64 d293_.gHead.gNum, .sl (List.map GTerm.c d293_.gHead.gKids), .int .i64 d293_.gBody.gKind, .str d293_.gBody.gName, .int .i64 d293_.gBody.gNum, .sl (List.map GTerm.c d293_.gBody.gKids), .str d293_.gFile]) }] [] [3, 5, 6, 7, 8] [5] [] ⟨[(3, (.v (.slx), [(0, .ex 70 true (List.map GClause.c e290_))])), (5, (.ptr 5 0, [])), (6, (.v (.sl (List.map GClause.c e289_)), [])), (7, (.v (.int .i64 (e289_.length : Int)), [])), (8, (.v (.int .i64 b291_), []))], [(5, .cells [.int .i64 d293_.gHead.gKind, .str d293_.gHead.gName, .int .i64 d293_.gHead.gNum, .sl (List.map GTerm.c d293_.gHead.gKids), .int .i64 d293_.gBody.gKind, .str d293_.gBody.gName, .int .i64 d293_.gBody.gNum, .sl (List.map GTerm.c d293_.gBody.gKids), .str d293_.gFile] [])], []⟩ _ (by kernel_rfl) (.cons (at_obl (c := GClause.c) (GClause.c_eq d293_) GClause.c_len h253) (.cons (len_ok 9 [.int .i64 d293_.gHead.gKind, .str d293_.gHead.gName, .int .i64 d293_.gHead.gNum, .sl (List.map GTerm.c d293_.gHead.gKids), .int .i64 d293_.gBody.gKind, .str d293_.gBody.gName, .int .i64 d293_.gBody.gNum, .sl (List.map GTerm.c d293_.gBody.gKids), .str d293_.gFile]) .nil)) ?_
        obtain ⟨d294_, h254, h251⟩ := obind h251
        obtain ⟨h255, h251⟩ := oguard h251
        refine Wc.region [{ tk := [3] }, {}, { r := some (.v (.agg [.int .i64 d294_.gHead.gKind, .str d294_.gHead.gName, .int .i64 d294_.gHead.gNum, .slx, .int .i64 d294_.gBody.gKind, .str d294_.gBody.gName, .int .i64 d294_.gBody.gNum, .slx, .str d294_.gFile]) [(3, .ex 41 true (List.map GTerm.c d294_.gHead.gKids)), (7, .ex 41 true (List.map GTerm.c d294_.gBody.gKids))]) }, { c := some (List.map GClause.c [d294_]), tk := [14], md := 2 }, { c := some (List.map GClause.c (e290_ ++ [d294_])), tk := [12, 15], md := 2 }, { tk := [16] }] [] [3, 6, 7, 8] [] [] ⟨[(3, (.v (.slx), [(0, .ex 70 true (List.map GClause.c (e290_ ++ [d294_])))])), (6, (.v (.sl (List.map GClause.c e289_)), [])), (7, (.v (.int .i64 (e289_.length : Int)), [])), (8, (.v (.int .i64 b291_), []))], [], []⟩ _ (by kernel_rfl) (.cons (cimpl_copyClause_d h254) (.cons (cl_cons (c := GClause.c) (x := d294_) (GClause.c_eq d294_) (cl_nil GClause.c)) (.cons (app_re2 GClause.c e290_ [d294_]) (.cons (app_obl2 (c := GClause.c) (xs := e290_) (ys := [d294_]) GClause.c_len h255) .nil)))) ?_
        refine Wc.region [] [] [3, 6, 7, 8] [] [] ⟨[(3, (.v (.slx), [(0, .ex 70 true (List.map GClause.c (e290_ ++ [d294_])))])), (6, (.v (.sl (List.map GClause.c e289_)), [])), (7, (.v (.int .i64 (e289_.length : Int)), [])), (8, (.v (.int .i64 (wr.i64 (b291_ + 1))), []))], [], []⟩ _ (by kernel_rfl) .nil ?_
        exact ⟨_, Nat.lt_succ_self _, _, _, rfl, h251⟩
      · refine Wc.condF h252 (by kernel_rfl) ?_
        refine Wc.fix (st' := ⟨[(3, (.v (.slx), [(0, .ex 70 true (List.map GClause.c e290_))]))], [], []⟩) [] [3] [] [] (by kernel_rfl) ?_
        refine Wc.exit ?_
        obtain rfl := Option.some.inj h251
        exact ⟨_, rfl, rfl⟩
  · rintro st ⟨e292_, rfl, rfl⟩
    refine Wc.seq ?_
    refine Wc.region [{ tk := [3] }, { tk := [18] }] [] [2] [] [] ⟨[(2, (.v (.slx), [(0, .ex 70 true (List.map GClause.c e292_))]))], [], []⟩ _ (by kernel_rfl) .nil ?_
    refine Wc.ret ?_
    obtain rfl := Option.some.inj h
    exact ⟨.inl rfl, by kernel_rfl, by kernel_rfl⟩

/-- impl.copyDb -/
def pimpl_copyDb_d (k : Nat) (i286_ : GDb) : Option GDb :=
  (pimpl_copyClauses_d k i286_.gClauses).bind fun l287_ =>
  if ([] : List ByteArray).length + i286_.gOpen.length ≤ 1073741824 then
    some (GDb.mk l287_ i286_.gOpen)
  else none
theorem cimpl_copyDb_d {k : Nat} {i286_ : GDb} {r : GDb} (h : pimpl_copyDb_d k i286_ = some r) : FnO Try.prog 41 [.v (.agg [.sl (List.map GClause.c i286_.gClauses), .sl (List.map cS i286_.gOpen)]) []] (.v (.agg [.slx, .slx]) [(0, .ex 70 true (List.map GClause.c r.gClauses)), (1, .ex 9 true (List.map cS r.gOpen))]) [] := by
  refine FnO.of Try.func41 (rfl : Try.f41.body = some _) (Nat.le_of_ble_eq_true (by kernel_rfl)) (Nat.le_of_ble_eq_true (by kernel_rfl)) ?_
  intro w0 X0 Fin pv0 pb gt
  unfold pimpl_copyDb_d at h
  refine Wc.seq ?_
  refine Wc.region [] [] [1, 2] [1, 2] [] ⟨[(1, (.ptr 1 0, [])), (2, (.ptr 2 0, []))], [(1, .cells [.sl (List.map GClause.c i286_.gClauses), .sl (List.map cS i286_.gOpen)] []), (2, .cells [.sl (List.map GClause.c []), .sl (List.map cS [])] [(0, .app 70), (1, .app 9)])], []⟩ _ (by kernel_rfl) .nil ?_
  refine Wc.seq ?_
  obtain ⟨l287_, h248, h⟩ := obind h
  obtain ⟨h249, h⟩ := oguard h
  refine Wc.draw hmix [{}, {}, { r := some (.v (.slx) [(0, .ex 70 true (List.map GClause.c l287_))]) }, {}, {}, { c := some (List.map cS i286_.gOpen), md := 2 }, { tk := [5, 8] }, { tk := [9] }] [] [2] [2] [] ⟨[(2, (.ptr 2 0, []))], [(2, .cells [.slx, .slx] [(0, .ex 70 true (List.map GClause.c l287_)), (1, .ex 9 true (List.map cS i286_.gOpen))])], []⟩ _ (by kernel_rfl) (fun X => by kernel_rfl) (.cons (cimpl_copyClauses_d h248) (.cons (app_re0 cS i286_.gOpen) (.cons (app_scal (c := cS) (ys := i286_.gOpen) cS_scal) (.cons (app_obl2 (c := cS) (xs := []) (ys := i286_.gOpen) cS_len h249) .nil)))) ?_
  refine Wc.ret ?_
  obtain rfl := Option.some.inj h
  exact ⟨.inl rfl, by kernel_rfl, by kernel_rfl⟩

/-- impl.Wiped$1 -/
def pimpl_Wiped_1 (k : Nat) (d285_ : GClause) (g286_ : ByteArray) : Option Bool :=
  some (sEq d285_.gFile g286_)
theorem cimpl_Wiped_1 {k : Nat} {d285_ : GClause} {g286_ : ByteArray} {r : Bool} (h : pimpl_Wiped_1 k d285_ g286_ = some r) : FnO Try.prog 43 [.v (.agg [.int .i64 d285_.gHead.gKind, .str d285_.gHead.gName, .int .i64 d285_.gHead.gNum, .sl (List.map GTerm.c d285_.gHead.gKids), .int .i64 d285_.gBody.gKind, .str d285_.gBody.gName, .int .i64 d285_.gBody.gNum, .sl (List.map GTerm.c d285_.gBody.gKids), .str d285_.gFile]) [], .v (.vptr [.str g286_]) []] (.v (.bool r) []) [] := by
  refine FnO.of Try.func43 (rfl : Try.f43.body = some _) (Nat.le_of_ble_eq_true (by kernel_rfl)) (Nat.le_of_ble_eq_true (by kernel_rfl)) ?_
  intro w0 X0 Fin pv0 pb gt
  unfold pimpl_Wiped_1 at h
  refine Wc.seq ?_
  refine Wc.region [] [] [1, 2] [2] [] ⟨[(1, (.v (.vptr [.str g286_]), [])), (2, (.ptr 2 0, []))], [(2, .cells [.int .i64 d285_.gHead.gKind, .str d285_.gHead.gName, .int .i64 d285_.gHead.gNum, .sl (List.map GTerm.c d285_.gHead.gKids), .int .i64 d285_.gBody.gKind, .str d285_.gBody.gName, .int .i64 d285_.gBody.gNum, .sl (List.map GTerm.c d285_.gBody.gKids), .str d285_.gFile] [])], []⟩ _ (by kernel_rfl) .nil ?_
  refine Wc.seq ?_
  refine Wc.region [] [] [3] [] [] ⟨[(3, (.v (.bool (sEq d285_.gFile g286_)), []))], [], []⟩ _ (by kernel_rfl) (.cons (len_ok 1 [.str g286_]) .nil) ?_
  refine Wc.ret ?_
  obtain rfl := Option.some.inj h
  exact ⟨.inl rfl, by kernel_rfl, by kernel_rfl⟩

def pslices_DeleteFunc___impl_Clause_impl_Clause__on1_pimpl_Wiped_1_d (k : Nat) (l : List GClause) (y0 : ByteArray) : Option (List GClause) :=
  if l.all (fun x => (pimpl_Wiped_1 k x y0).isSome) = true then some (l.filter fun x => !((pimpl_Wiped_1 k x y0).getD false)) else none
theorem cslices_DeleteFunc___impl_Clause_impl_Clause__on1_pimpl_Wiped_1_d {k : Nat} {l : List GClause} {y0 : ByteArray} {r : List GClause} (h : pslices_DeleteFunc___impl_Clause_impl_Clause__on1_pimpl_Wiped_1_d k l y0 = some r) : FnO Try.prog 42 [.v .slx [(0, .ex 70 true (List.map GClause.c l))], .v (.func 43 [.vptr [.str y0]]) []] (.v (.slx) [(0, .ex 70 true (List.map GClause.c r))]) [] := by
  obtain ⟨h1, h⟩ := oguard h
  obtain rfl := Option.some.inj h
  refine delfunc_O df_roads (by kernel_rfl) (by decide) (l := l) (cf := GClause.c) GClause.c_len (g := 43) (caps := [.vptr [.str y0]]) (pr := fun x => (pimpl_Wiped_1 k x y0).getD false) (fun args w => Try.call43 args w) (fun x hx => ?_)
  have hs := List.all_eq_true.1 h1 x hx
  obtain ⟨q, hq⟩ := Option.isSome_iff_exists.1 hs
  have e : (pimpl_Wiped_1 k x y0).getD false = q := by rw [hq]; rfl
  show FnO Try.prog 43 _ (.v (.bool ((pimpl_Wiped_1 k x y0).getD false)) []) []
  rw [e]
  exact cimpl_Wiped_1 hq

def plaws_toTermS_d_L1 (k : Nat) (rlaws_toTerm_d : GTerm → Option GTerm) (rlaws_toTermS_d : (List GTerm) → Option (List GTerm)) (a294_ : List GTerm) : Nat → (List GTerm) → Int → Option (Out (List GTerm) (List GTerm))
  | 0, _, _ => none
  | m + 1, a295_, b296_ =>
    if (decide (b296_ < (a294_.length : Int))) = true then
      (at' a294_ b296_).bind fun c298_ =>
      (rlaws_toTerm_d c298_).bind fun c299_ =>
      (at' a295_ b296_).bind fun c300_ =>
      plaws_toTermS_d_L1 k rlaws_toTerm_d rlaws_toTermS_d a294_ m (a295_.set ((b296_).toNat) c299_) (wr.i64 (b296_ + 1))
    else
      some (.done a295_)
mutual
/-- laws.toTerm -/
def plaws_toTerm_d : Nat → GTerm → Option GTerm
  | 0, _ => none
  | k + 1, c292_ =>
    (plaws_toTermS_d k c292_.gKids).bind fun j293_ =>
    some (GTerm.mk c292_.gKind c292_.gName c292_.gNum j293_)
/-- laws.toTermS -/
def plaws_toTermS_d : Nat → (List GTerm) → Option (List GTerm)
  | 0, _ => none
  | k + 1, a294_ =>
    if 0 ≤ (a294_.length : Int) ∧ (a294_.length : Int) ≤ 1073741824 then
      (plaws_toTermS_d_L1 k (plaws_toTerm_d k) (plaws_toTermS_d k) a294_ k (List.replicate ((a294_.length : Int)).toNat (GTerm.mk 0 (bs []) 0 [])) 0).bind fun out1 => match out1 with
      | .ret r => some r
      | .done a297_ =>
        some a297_
    else none
end
theorem all_plaws_toTerm_d : ∀ k : Nat, (∀ {c292_ : GTerm} {r : GTerm}, plaws_toTerm_d k c292_ = some r → FnO Try.prog 116 [.v (.agg [.int .i64 c292_.gKind, .str c292_.gName, .int .i64 c292_.gNum, .sl (List.map GTerm.c c292_.gKids)]) []] (.v (.agg [.int .i64 r.gKind, .str r.gName, .int .i64 r.gNum, .slx]) [(3, .ex 41 true (List.map GTerm.c r.gKids))]) []) ∧
    (∀ {a294_ : List GTerm} {r : (List GTerm)}, plaws_toTermS_d k a294_ = some r → FnO Try.prog 132 [.v (.sl (List.map GTerm.c a294_)) []] (.v (.slx) [(0, .ex 41 true (List.map GTerm.c r))]) []) := by
  intro k
  induction k with
  | zero =>
    refine ⟨?_, ?_⟩
    · intro c292_ r h
      exact (onone (by rw [plaws_toTerm_d] at h; exact h)).elim
    · intro a294_ r h
      exact (onone (by rw [plaws_toTermS_d] at h; exact h)).elim
  | succ k ih =>
    obtain ⟨ih_plaws_toTerm_d, ih_plaws_toTermS_d⟩ := ih
    refine ⟨?_, ?_⟩
    · intro c292_ r h
      rw [plaws_toTerm_d] at h
      refine FnO.of Try.func116 (rfl : Try.f116.body = some _) (Nat.le_of_ble_eq_true (by kernel_rfl)) (Nat.le_of_ble_eq_true (by kernel_rfl)) ?_
      intro w0 X0 Fin pv0 pb gt
      refine Wc.seq ?_
      refine Wc.region [] [] [1, 2] [1, 2] [] ⟨[(1, (.ptr 1 0, [])), (2, (.ptr 2 0, []))], [(1, .cells [.int .i64 c292_.gKind, .str c292_.gName, .int .i64 c292_.gNum, .sl (List.map GTerm.c c292_.gKids)] []), (2, .cells [.int .i64 0, .str (bs []), .int .i64 0, .sl (List.map GTerm.c [])] [(3, .app 41)])], []⟩ _ (by kernel_rfl) .nil ?_
      refine Wc.seq ?_
      refine Wc.region [] [] [1, 2, 3] [1, 2, 3] [] ⟨[(1, (.ptr 1 0, [])), (2, (.ptr 2 0, [])), (3, (.ptr 3 0, []))], [(1, .cells [.int .i64 c292_.gKind, .str c292_.gName, .int .i64 c292_.gNum, .sl (List.map GTerm.c c292_.gKids)] []), (2, .cells [.int .i64 0, .str (bs []), .int .i64 0, .sl (List.map GTerm.c [])] [(3, .app 41)]), (3, .cells [.int .i64 0, .str (bs []), .int .i64 0, .sl (List.map GTerm.c [])] [(3, .app 41)])], []⟩ _ (by kernel_rfl) .nil ?_
      refine Wc.seq ?_
      refine Wc.region [] [] [1, 2, 3] [1, 2, 3] [] ⟨[(1, (.ptr 1 0, [])), (2, (.ptr 2 0, [])), (3, (.ptr 3 0, []))], [(1, .cells [.int .i64 c292_.gKind, .str c292_.gName, .int .i64 c292_.gNum, .sl (List.map GTerm.c c292_.gKids)] []), (2, .cells [.int .i64 0, .str (bs []), .int .i64 0, .sl (List.map GTerm.c [])] [(3, .app 41)]), (3, .cells [.int .i64 c292_.gKind, .str (bs []), .int .i64 0, .sl (List.map GTerm.c [])] [(3, .app 41)])], []⟩ _ (by kernel_rfl) .nil ?_
      refine Wc.seq ?_
      refine Wc.region [] [] [1, 2, 3] [1, 2, 3] [] ⟨[(1, (.ptr 1 0, [])), (2, (.ptr 2 0, [])), (3, (.ptr 3 0, []))], [(1, .cells [.int .i64 c292_.gKind, .str c292_.gName, .int .i64 c292_.gNum, .sl (List.map GTerm.c c292_.gKids)] []), (2, .cells [.int .i64 0, .str (bs []), .int .i64 0, .sl (List.map GTerm.c [])] [(3, .app 41)]), (3, .cells [.int .i64 c292_.gKind, .str c292_.gName, .int .i64 0, .sl (List.map GTerm.c [])] [(3, .app 41)])], []⟩ _ (by kernel_rfl) .nil ?_
      refine Wc.seq ?_
      refine Wc.region [] [] [1, 2, 3] [1, 2, 3] [] ⟨[(1, (.ptr 1 0, [])), (2, (.ptr 2 0, [])), (3, (.ptr 3 0, []))], [(1, .cells [.int .i64 c292_.gKind, .str c292_.gName, .int .i64 c292_.gNum, .sl (List.map GTerm.c c292_.gKids)] []), (2, .cells [.int .i64 0, .str (bs []), .int .i64 0, .sl (List.map GTerm.c [])] [(3, .app 41)]), (3, .cells [.int .i64 c292_.gKind, .str c292_.gName, .int .i64 c292_.gNum, .sl (List.map GTerm.c [])] [(3, .app 41)])], []⟩ _ (by kernel_rfl) .nil ?_
      refine Wc.seq ?_
      obtain ⟨j293_, h253, h⟩ := obind h
      refine Wc.region [{}, {}, { r := some (.v (.slx) [(0, .ex 41 true (List.map GTerm.c j293_))]) }, {}, { tk := [15] }] [] [2, 3] [2, 3] [] ⟨[(2, (.ptr 2 0, [])), (3, (.ptr 3 0, []))], [(2, .cells [.int .i64 0, .str (bs []), .int .i64 0, .sl (List.map GTerm.c [])] [(3, .app 41)]), (3, .cells [.int .i64 c292_.gKind, .str c292_.gName, .int .i64 c292_.gNum, .slx] [(3, .ex 41 true (List.map GTerm.c j293_))])], []⟩ _ (by kernel_rfl) (.cons (ih_plaws_toTermS_d h253) .nil) ?_
      refine Wc.seq ?_
      refine Wc.region [{ md := 1 }, { tk := [17] }] [] [2] [2] [] ⟨[(2, (.ptr 2 0, []))], [(2, .cells [.int .i64 c292_.gKind, .str c292_.gName, .int .i64 c292_.gNum, .slx] [(3, .ex 41 true (List.map GTerm.c j293_))])], []⟩ _ (by kernel_rfl) .nil ?_
      refine Wc.ret ?_
      obtain rfl := Option.some.inj h
      exact ⟨.inl rfl, by kernel_rfl, by kernel_rfl⟩
    · intro a294_ r h
      rw [plaws_toTermS_d] at h
      refine FnO.of Try.func132 (rfl : Try.f132.body = some _) (Nat.le_of_ble_eq_true (by kernel_rfl)) (Nat.le_of_ble_eq_true (by kernel_rfl)) ?_
      intro w0 X0 Fin pv0 pb gt
      refine Wc.seq ?_
      refine Wc.region [] [] [0] [] [] ⟨[(0, (.v (.sl (List.map GTerm.c a294_)), []))], [], []⟩ _ (by kernel_rfl) .nil ?_
      refine Wc.seq ?_
      obtain ⟨h254, h⟩ := oguard h
      refine Wc.region [{}, { v := some (.int .i64 (a294_.length : Int)) }, { c := some (List.map GTerm.c (List.replicate ((a294_.length : Int)).toNat (GTerm.mk 0 (bs []) 0 []))) }, { tk := [7] }] [] [0, 3] [] [] ⟨[(0, (.v (.sl (List.map GTerm.c a294_)), [])), (3, (.v (.slx), [(0, .ex 41 true (List.map GTerm.c (List.replicate ((a294_.length : Int)).toNat (GTerm.mk 0 (bs []) 0 []))))]))], [], []⟩ _ (by kernel_rfl) (.cons (len_obl GTerm.c a294_) (.cons (rep_re (c := GTerm.c) (z := (GTerm.mk 0 (bs []) 0 [])) (GTerm.c_eq (GTerm.mk 0 (bs []) 0 [])) ((a294_.length : Int)).toNat) (.cons (ms_obl h254) .nil))) ?_
      refine Wc.seq ?_
      refine Wc.seq ?_
      refine Wc.region [] [] [0, 3, 4] [] [] ⟨[(0, (.v (.sl (List.map GTerm.c a294_)), [])), (3, (.v (.slx), [(0, .ex 41 true (List.map GTerm.c (List.replicate ((a294_.length : Int)).toNat (GTerm.mk 0 (bs []) 0 []))))])), (4, (.v (.int .i64 0), []))], [], []⟩ _ (by kernel_rfl) .nil ?_
      obtain ⟨out1, h255, h⟩ := obind h
      refine Wc.lastJ (fun st => ∃ (a297_ : List GTerm), out1 = .done a297_ ∧ st = ⟨[(3, (.v (.slx), [(0, .ex 41 true (List.map GTerm.c a297_))]))], [], []⟩) ?_ ?_
      · refine Wc.block ?_
        refine Wc.loop (fun m st => ∃ (a295_ : List GTerm) (b296_ : Int), st = ⟨[(0, (.v (.sl (List.map GTerm.c a294_)), [])), (3, (.v (.slx), [(0, .ex 41 true (List.map GTerm.c a295_))])), (4, (.v (.int .i64 b296_), []))], [], []⟩ ∧ plaws_toTermS_d_L1 k (plaws_toTerm_d k) (plaws_toTermS_d k) a294_ m a295_ b296_ = some out1) ?_ k ⟨_, _, rfl, h255⟩
        rintro m st ⟨a295_, b296_, rfl, h255⟩
        cases m with
        | zero => exact (onone h255).elim
        | succ m =>
          refine Wc.seq ?_
          refine Wc.seq ?_
          refine Wc.region [{}, {}, { v := some (.int .i64 (a294_.length : Int)) }] [] [0, 3, 4, 11] [] [] ⟨[(0, (.v (.sl (List.map GTerm.c a294_)), [])), (3, (.v (.slx), [(0, .ex 41 true (List.map GTerm.c a295_))])), (4, (.v (.int .i64 b296_), [])), (11, (.v (.bool (decide (b296_ < (a294_.length : Int)))), []))], [], []⟩ _ (by kernel_rfl) (.cons (len_obl GTerm.c a294_) .nil) ?_
          rcases oif h255 with ⟨h256, h255⟩ | ⟨h256, h255⟩
          · refine Wc.condT h256 (by kernel_rfl) ?_
            refine Wc.fix (st' := ⟨[(0, (.v (.sl (List.map GTerm.c a294_)), [])), (3, (.v (.slx), [(0, .ex 41 true (List.map GTerm.c a295_))])), (4, (.v (.int .i64 b296_), []))], [], []⟩) [] [0, 3, 4] [] [] (by kernel_rfl) ?_
            refine Wc.skip ?_
            refine Wc.seq ?_
            refine Wc.block ?_
            obtain ⟨c298_, h257, h255⟩ := obind h255
            obtain ⟨c299_, h258, h255⟩ := obind h255
            obtain ⟨c300_, h259, h255⟩ := obind h255
            refine Wc.region [{}, {}, {}, {}, { v := some (.vptr [.int .i64 c298_.gKind, .str c298_.gName, .int .i64 c298_.gNum, .sl (List.map GTerm.c c298_.gKids)]) }, {}, { r := some (.v (.agg [.int .i64 c299_.gKind, .str c299_.gName, .int .i64 c299_.gNum, .slx]) [(3, .ex 41 true (List.map GTerm.c c299_.gKids))]) }, {}, { c := some (List.map GTerm.c (a295_.set ((b296_).toNat) c299_)), tk := [20] }] [] [0, 3, 4] [] [] ⟨[(0, (.v (.sl (List.map GTerm.c a294_)), [])), (3, (.v (.slx), [(0, .ex 41 true (List.map GTerm.c (a295_.set ((b296_).toNat) c299_)))])), (4, (.v (.int .i64 b296_), []))], [], []⟩ _ (by kernel_rfl) (.cons (at_obl (c := GTerm.c) (GTerm.c_eq c298_) GTerm.c_len h257) (.cons (len_ok 4 [.int .i64 c298_.gKind, .str c298_.gName, .int .i64 c298_.gNum, .sl (List.map GTerm.c c298_.gKids)]) (.cons (ih_plaws_toTerm_d h258) (.cons (ix_obl (c := GTerm.c) GTerm.c_len h259) (.cons (mod_obl (off := 0) (new := [.int .i64 c299_.gKind, .str c299_.gName, .int .i64 c299_.gNum, .sl (List.map GTerm.c c299_.gKids)]) (c := GTerm.c) (GTerm.c_eq c300_) (GTerm.c_eq c299_) (at'_spec h259).2 rfl) (.cons (st_obl (sz := 4) (off := 0) (s := 4) (c := GTerm.c) (GTerm.c_eq c300_) (at'_spec h259).2 rfl (Nat.le_of_ble_eq_true rfl)) .nil)))))) ?_
            refine Wc.region [] [] [0, 3, 4] [] [] ⟨[(0, (.v (.sl (List.map GTerm.c a294_)), [])), (3, (.v (.slx), [(0, .ex 41 true (List.map GTerm.c (a295_.set ((b296_).toNat) c299_)))])), (4, (.v (.int .i64 (wr.i64 (b296_ + 1))), []))], [], []⟩ _ (by kernel_rfl) .nil ?_
            exact ⟨_, Nat.lt_succ_self _, _, _, rfl, h255⟩
          · refine Wc.condF h256 (by kernel_rfl) ?_
            refine Wc.fix (st' := ⟨[(3, (.v (.slx), [(0, .ex 41 true (List.map GTerm.c a295_))]))], [], []⟩) [] [3] [] [] (by kernel_rfl) ?_
            refine Wc.exit ?_
            obtain rfl := Option.some.inj h255
            exact ⟨_, rfl, rfl⟩
      · rintro st ⟨a297_, rfl, rfl⟩
        refine Wc.seq ?_
        refine Wc.region [{ tk := [3] }, { tk := [22] }] [] [2] [] [] ⟨[(2, (.v (.slx), [(0, .ex 41 true (List.map GTerm.c a297_))]))], [], []⟩ _ (by kernel_rfl) .nil ?_
        refine Wc.ret ?_
        obtain rfl := Option.some.inj h
        exact ⟨.inl rfl, by kernel_rfl, by kernel_rfl⟩
theorem claws_toTerm_d {k : Nat} {c292_ : GTerm} {r : GTerm} (h : plaws_toTerm_d k c292_ = some r) : FnO Try.prog 116 [.v (.agg [.int .i64 c292_.gKind, .str c292_.gName, .int .i64 c292_.gNum, .sl (List.map GTerm.c c292_.gKids)]) []] (.v (.agg [.int .i64 r.gKind, .str r.gName, .int .i64 r.gNum, .slx]) [(3, .ex 41 true (List.map GTerm.c r.gKids))]) [] := (all_plaws_toTerm_d k).1 h
theorem claws_toTermS_d {k : Nat} {a294_ : List GTerm} {r : (List GTerm)} (h : plaws_toTermS_d k a294_ = some r) : FnO Try.prog 132 [.v (.sl (List.map GTerm.c a294_)) []] (.v (.slx) [(0, .ex 41 true (List.map GTerm.c r))]) [] := (all_plaws_toTerm_d k).2 h

/-- laws.toClause -/
def plaws_toClause_d (k : Nat) (d288_ : GClause) : Option GClause :=
  (plaws_toTerm_d k d288_.gHead).bind fun c289_ =>
  (plaws_toTerm_d k d288_.gBody).bind fun c290_ =>
  some (GClause.mk c289_ c290_ d288_.gFile)
theorem claws_toClause_d {k : Nat} {d288_ : GClause} {r : GClause} (h : plaws_toClause_d k d288_ = some r) : FnO Try.prog 84 [.v (.agg [.int .i64 d288_.gHead.gKind, .str d288_.gHead.gName, .int .i64 d288_.gHead.gNum, .sl (List.map GTerm.c d288_.gHead.gKids), .int .i64 d288_.gBody.gKind, .str d288_.gBody.gName, .int .i64 d288_.gBody.gNum, .sl (List.map GTerm.c d288_.gBody.gKids), .str d288_.gFile]) []] (.v (.agg [.int .i64 r.gHead.gKind, .str r.gHead.gName, .int .i64 r.gHead.gNum, .slx, .int .i64 r.gBody.gKind, .str r.gBody.gName, .int .i64 r.gBody.gNum, .slx, .str r.gFile]) [(3, .ex 41 true (List.map GTerm.c r.gHead.gKids)), (7, .ex 41 true (List.map GTerm.c r.gBody.gKids))]) [] := by
  refine FnO.of Try.func84 (rfl : Try.f84.body = some _) (Nat.le_of_ble_eq_true (by kernel_rfl)) (Nat.le_of_ble_eq_true (by kernel_rfl)) ?_
  intro w0 X0 Fin pv0 pb gt
  unfold plaws_toClause_d at h
  refine Wc.seq ?_
  refine Wc.region [] [] [1, 2] [1, 2] [] ⟨[(1, (.ptr 1 0, [])), (2, (.ptr 2 0, []))], [(1, .cells [.int .i64 d288_.gHead.gKind, .str d288_.gHead.gName, .int .i64 d288_.gHead.gNum, .sl (List.map GTerm.c d288_.gHead.gKids), .int .i64 d288_.gBody.gKind, .str d288_.gBody.gName, .int .i64 d288_.gBody.gNum, .sl (List.map GTerm.c d288_.gBody.gKids), .str d288_.gFile] []), (2, .cells [.int .i64 0, .str (bs []), .int .i64 0, .sl (List.map GTerm.c []), .int .i64 0, .str (bs []), .int .i64 0, .sl (List.map GTerm.c []), .str (bs [])] [(3, .app 41), (7, .app 41)])], []⟩ _ (by kernel_rfl) .nil ?_
  refine Wc.seq ?_
  refine Wc.region [] [] [1, 2, 3] [1, 2, 3] [] ⟨[(1, (.ptr 1 0, [])), (2, (.ptr 2 0, [])), (3, (.ptr 3 0, []))], [(1, .cells [.int .i64 d288_.gHead.gKind, .str d288_.gHead.gName, .int .i64 d288_.gHead.gNum, .sl (List.map GTerm.c d288_.gHead.gKids), .int .i64 d288_.gBody.gKind, .str d288_.gBody.gName, .int .i64 d288_.gBody.gNum, .sl (List.map GTerm.c d288_.gBody.gKids), .str d288_.gFile] []), (2, .cells [.int .i64 0, .str (bs []), .int .i64 0, .sl (List.map GTerm.c []), .int .i64 0, .str (bs []), .int .i64 0, .sl (List.map GTerm.c []), .str (bs [])] [(3, .app 41), (7, .app 41)]), (3, .cells [.int .i64 0, .str (bs []), .int .i64 0, .sl (List.map GTerm.c []), .int .i64 0, .str (bs []), .int .i64 0, .sl (List.map GTerm.c []), .str (bs [])] [(3, .app 41), (7, .app 41)])], []⟩ _ (by kernel_rfl) .nil ?_
  refine Wc.seq ?_
  obtain ⟨c289_, h251, h⟩ := obind h
  refine Wc.region [{}, {}, { r := some (.v (.agg [.int .i64 c289_.gKind, .str c289_.gName, .int .i64 c289_.gNum, .slx]) [(3, .ex 41 true (List.map GTerm.c c289_.gKids))]) }, {}, { tk := [6] }] [.so 3] [1, 2, 3] [1, 2, 3] [] ⟨[(1, (.ptr 1 0, [])), (2, (.ptr 2 0, [])), (3, (.ptr 3 0, []))], [(1, .cells [.int .i64 d288_.gHead.gKind, .str d288_.gHead.gName, .int .i64 d288_.gHead.gNum, .sl (List.map GTerm.c d288_.gHead.gKids), .int .i64 d288_.gBody.gKind, .str d288_.gBody.gName, .int .i64 d288_.gBody.gNum, .sl (List.map GTerm.c d288_.gBody.gKids), .str d288_.gFile] []), (2, .cells [.int .i64 0, .str (bs []), .int .i64 0, .sl (List.map GTerm.c []), .int .i64 0, .str (bs []), .int .i64 0, .sl (List.map GTerm.c []), .str (bs [])] [(3, .app 41), (7, .app 41)]), (3, .cells [.int .i64 c289_.gKind, .str c289_.gName, .int .i64 c289_.gNum, .slx, .int .i64 0, .str (bs []), .int .i64 0, .sl (List.map GTerm.c []), .str (bs [])] [(3, .ex 41 true (List.map GTerm.c c289_.gKids)), (7, .app 41)])], []⟩ _ (by kernel_rfl) (.cons (claws_toTerm_d h251) .nil) ?_
  refine Wc.seq ?_
  obtain ⟨c290_, h252, h⟩ := obind h
  refine Wc.region [{}, {}, { r := some (.v (.agg [.int .i64 c290_.gKind, .str c290_.gName, .int .i64 c290_.gNum, .slx]) [(3, .ex 41 true (List.map GTerm.c c290_.gKids))]) }, {}, { tk := [10] }] [] [1, 2, 3] [1, 2, 3] [] ⟨[(1, (.ptr 1 0, [])), (2, (.ptr 2 0, [])), (3, (.ptr 3 0, []))], [(1, .cells [.int .i64 d288_.gHead.gKind, .str d288_.gHead.gName, .int .i64 d288_.gHead.gNum, .sl (List.map GTerm.c d288_.gHead.gKids), .int .i64 d288_.gBody.gKind, .str d288_.gBody.gName, .int .i64 d288_.gBody.gNum, .sl (List.map GTerm.c d288_.gBody.gKids), .str d288_.gFile] []), (2, .cells [.int .i64 0, .str (bs []), .int .i64 0, .sl (List.map GTerm.c []), .int .i64 0, .str (bs []), .int .i64 0, .sl (List.map GTerm.c []), .str (bs [])] [(3, .app 41), (7, .app 41)]), (3, .cells [.int .i64 c289_.gKind, .str c289_.gName, .int .i64 c289_.gNum, .slx, .int .i64 c290_.gKind, .str c290_.gName, .int .i64 c290_.gNum, .slx, .str (bs [])] [(3, .ex 41 true (List.map GTerm.c c289_.gKids)), (7, .ex 41 true (List.map GTerm.c c290_.gKids))])], []⟩ _ (by kernel_rfl) (.cons (claws_toTerm_d h252) .nil) ?_
  refine Wc.seq ?_
  refine Wc.region [] [] [2, 3] [2, 3] [] ⟨[(2, (.ptr 2 0, [])), (3, (.ptr 3 0, []))], [(2, .cells [.int .i64 0, .str (bs []), .int .i64 0, .sl (List.map GTerm.c []), .int .i64 0, .str (bs []), .int .i64 0, .sl (List.map GTerm.c []), .str (bs [])] [(3, .app 41), (7, .app 41)]), (3, .cells [.int .i64 c289_.gKind, .str c289_.gName, .int .i64 c289_.gNum, .slx, .int .i64 c290_.gKind, .str c290_.gName, .int .i64 c290_.gNum, .slx, .str d288_.gFile] [(3, .ex 41 true (List.map GTerm.c c289_.gKids)), (7, .ex 41 true (List.map GTerm.c c290_.gKids))])], []⟩ _ (by kernel_rfl) .nil ?_
  refine Wc.seq ?_
  refine Wc.region [{ md := 1 }, { tk := [15] }] [] [2] [2] [] ⟨[(2, (.ptr 2 0, []))], [(2, .cells [.int .i64 c289_.gKind, .str c289_.gName, .int .i64 c289_.gNum, .slx, .int .i64 c290_.gKind, .str c290_.gName, .int .i64 c290_.gNum, .slx, .str d288_.gFile] [(3, .ex 41 true (List.map GTerm.c c289_.gKids)), (7, .ex 41 true (List.map GTerm.c c290_.gKids))])], []⟩ _ (by kernel_rfl) .nil ?_
  refine Wc.ret ?_
  obtain rfl := Option.some.inj h
  exact ⟨.inl rfl, by kernel_rfl, by kernel_rfl⟩

def plaws_toClauseS_d_L1 (k : Nat) (e290_ : List GClause) : Nat → (List GClause) → Int → Option (Out (List GClause) (List GClause))
  | 0, _, _ => none
  | m + 1, e291_, b292_ =>
    if (decide (b292_ < (e290_.length : Int))) = true then
      (at' e290_ b292_).bind fun d294_ =>
      (plaws_toClause_d k d294_).bind fun d295_ =>
      (at' e291_ b292_).bind fun d296_ =>
      plaws_toClauseS_d_L1 k e290_ m (e291_.set ((b292_).toNat) d295_) (wr.i64 (b292_ + 1))
    else
      some (.done e291_)
/-- laws.toClauseS -/
def plaws_toClauseS_d (k : Nat) (e290_ : List GClause) : Option (List GClause) :=
  if 0 ≤ (e290_.length : Int) ∧ (e290_.length : Int) ≤ 1073741824 then
    (plaws_toClauseS_d_L1 k e290_ k (List.replicate ((e290_.length : Int)).toNat (GClause.mk (GTerm.mk 0 (bs []) 0 []) (GTerm.mk 0 (bs []) 0 []) (bs []))) 0).bind fun out1 => match out1 with
    | .ret r => some r
    | .done e293_ =>
      some e293_
  else none
theorem claws_toClauseS_d {k : Nat} {e290_ : List GClause} {r : (List GClause)} (h : plaws_toClauseS_d k e290_ = some r) : FnO Try.prog 39 [.v (.sl (List.map GClause.c e290_)) []] (.v (.slx) [(0, .ex 70 true (List.map GClause.c r))]) [] := by
  refine FnO.of Try.func39 (rfl : Try.f39.body = some _) (Nat.le_of_ble_eq_true (by kernel_rfl)) (Nat.le_of_ble_eq_true (by kernel_rfl)) ?_
  intro w0 X0 Fin pv0 pb gt
  unfold plaws_toClauseS_d at h
  refine Wc.seq ?_
  refine Wc.region [] [] [0] [] [] ⟨[(0, (.v (.sl (List.map GClause.c e290_)), []))], [], []⟩ _ (by kernel_rfl) .nil ?_
  refine Wc.seq ?_
  obtain ⟨h252, h⟩ := oguard h
  refine Wc.region [{}, { v := some (.int .i64 (e290_.length : Int)) }, { c := some (List.map GClause.c (List.replicate ((e290_.length : Int)).toNat (GClause.mk (GTerm.mk 0 (bs []) 0 []) (GTerm.mk 0 (bs []) 0 []) (bs [])))) }, { tk := [7] }] [] [0, 3] [] [] ⟨[(0, (.v (.sl (List.map GClause.c e290_)), [])), (3, (.v (.slx), [(0, .ex 70 true (List.map GClause.c (List.replicate ((e290_.length : Int)).toNat (GClause.mk (GTerm.mk 0 (bs []) 0 []) (GTerm.mk 0 (bs []) 0 []) (bs [])))))]))], [], []⟩ _ (by kernel_rfl) (.cons (len_obl GClause.c e290_) (.cons (rep_re (c := GClause.c) (z := (GClause.mk (GTerm.mk 0 (bs []) 0 []) (GTerm.mk 0 (bs []) 0 []) (bs []))) (GClause.c_eq (GClause.mk (GTerm.mk 0 (bs []) 0 []) (GTerm.mk 0 (bs []) 0 []) (bs []))) ((e290_.length : Int)).toNat) (.cons (ms_obl h252) .nil))) ?_
  refine Wc.seq ?_
  refine Wc.seq ?_
  refine Wc.region [] [] [0, 3, 4] [] [] ⟨[(0, (.v (.sl (List.map GClause.c e290_)), [])), (3, (.v (.slx), [(0, .ex 70 true (List.map GClause.c (List.replicate ((e290_.length : Int)).toNat (GClause.mk (GTerm.mk 0 (bs []) 0 []) (GTerm.mk 0 (bs []) 0 []) (bs [])))))])), (4, (.v (.int .i64 0), []))], [], []⟩ _ (by kernel_rfl) .nil ?_
  obtain ⟨out1, h253, h⟩ := obind h
  refine Wc.lastJ (fun st => ∃ (e293_ : List GClause), out1 = .done e293_ ∧ st = ⟨[(3, (.v (.slx), [(0, .ex 70 true (List.map GClause.c e293_))]))], [], []⟩) ?_ ?_
  · refine Wc.block ?_
    refine Wc.loop (fun m st => ∃ (e291_ : List GClause) (b292_ : Int), st = ⟨[(0, (.v (.sl (List.map GClause.c e290_)), [])), (3, (.v (.slx), [(0, .ex 70 true (List.map GClause.c e291_))])), (4, (.v (.int .i64 b292_), []))], [], []⟩ ∧ plaws_toClauseS_d_L1 k e290_ m e291_ b292_ = some out1) ?_ k ⟨_, _, rfl, h253⟩
    rintro m st ⟨e291_, b292_, rfl, h253⟩
    cases m with
    | zero => exact (onone h253).elim
    | succ m =>
      refine Wc.seq ?_
      refine Wc.seq ?_
      refine Wc.region [{}, {}, { v := some (.int .i64 (e290_.length : Int)) }] [] [0, 3, 4, 11] [] [] ⟨[(0, (.v (.sl (List.map GClause.c e290_)), [])), (3, (.v (.slx), [(0, .ex 70 true (List.map GClause.c e291_))])), (4, (.v (.int .i64 b292_), [])), (11, (.v (.bool (decide (b292_ < (e290_.length : Int)))), []))], [], []⟩ _ (by kernel_rfl) (.cons (len_obl GClause.c e290_) .nil) ?_
      rcases oif h253 with ⟨h254, h253⟩ | ⟨h254, h253⟩
      · refine Wc.condT h254 (by kernel_rfl) ?_
        refine Wc.fix (st' := ⟨[(0, (.v (.sl (List.map GClause.c e290_)), [])), (3, (.v (.slx), [(0, .ex 70 true (List.map GClause.c e291_))])), (4, (.v (.int .i64 b292_), []))], [], []⟩) [] [0, 3, 4] [] [] (by kernel_rfl) ?_
        refine Wc.skip ?_
        refine Wc.seq ?_
        refine Wc.block ?_
        obtain ⟨d294_, h255, h253⟩ := obind h253
        obtain ⟨d295_, h256, h253⟩ := obind h253
        obtain ⟨d296_, h257, h253⟩ := obind h253
        refine Wc.region [{}, {}, {}, {}, { v := some (.vptr [.int .i64 d294_.gHead.gKind, .str d294_.gHead.gName, .int .i64 d294_.gHead.gNum, .sl (List.map GTerm.c d294_.gHead.gKids), .int .i64 d294_.gBody.gKind, .str d294_.gBody.gName, .int .i64 d294_.gBody.gNum, .sl (List.map GTerm.c d294_.gBody.gKids), .str d294_.gFile]) }, {}, { r := some (.v (.agg [.int .i64 d295_.gHead.gKind, .str d295_.gHead.gName, .int .i64 d295_.gHead.gNum, .slx, .int .i64 d295_.gBody.gKind, .str d295_.gBody.gName, .int .i64 d295_.gBody.gNum, .slx, .str d295_.gFile]) [(3, .ex 41 true (List.map GTerm.c d295_.gHead.gKids)), (7, .ex 41 true (List.map GTerm.c d295_.gBody.gKids))]) }, {}, { c := some (List.map GClause.c (e291_.set ((b292_).toNat) d295_)), tk := [20] }] [] [0, 3, 4] [] [] ⟨[(0, (.v (.sl (List.map GClause.c e290_)), [])), (3, (.v (.slx), [(0, .ex 70 true (List.map GClause.c (e291_.set ((b292_).toNat) d295_)))])), (4, (.v (.int .i64 b292_), []))], [], []⟩ _ (by kernel_rfl) (.cons (at_obl (c := GClause.c) (GClause.c_eq d294_) GClause.c_len h255) (.cons (len_ok 9 [.int .i64 d294_.gHead.gKind, .str d294_.gHead.gName, .int .i64 d294_.gHead.gNum, .sl (List.map GTerm.c d294_.gHead.gKids), .int .i64 d294_.gBody.gKind, .str d294_.gBody.gName, .int .i64 d294_.gBody.gNum, .sl (List.map GTerm.c d294_.gBody.gKids), .str d294_.gFile]) (.cons (claws_toClause_d h256) (.cons (ix_obl (c := GClause.c) GClause.c_len h257) (.cons (mod_obl (off := 0) (new := [.int .i64 d295_.gHead.gKind, .str d295_.gHead.gName, .int .i64 d295_.gHead.gNum, .sl (List.map GTerm.c d295_.gHead.gKids), .int .i64 d295_.gBody.gKind, .str d295_.gBody.gName, .int .i64 d295_.gBody.gNum, .sl (List.map GTerm.c d295_.gBody.gKids), .str d295_.gFile]) (c := GClause.c) (GClause.c_eq d296_) (GClause.c_eq d295_) (at'_spec h257).2 rfl) (.cons (st_obl (sz := 9) (off := 0) (s := 9) (c := GClause.c) (GClause.c_eq d296_) (at'_spec h257).2 rfl (Nat.le_of_ble_eq_true rfl)) .nil)))))) ?_
        refine Wc.region [] [] [0, 3, 4] [] [] ⟨[(0, (.v (.sl (List.map GClause.c e290_)), [])), (3, (.v (.slx), [(0, .ex 70 true (List.map GClause.c (e291_.set ((b292_).toNat) d295_)))])), (4, (.v (.int .i64 (wr.i64 (b292_ + 1))), []))], [], []⟩ _ (by kernel_rfl) .nil ?_
        exact ⟨_, Nat.lt_succ_self _, _, _, rfl, h253⟩
      · refine Wc.condF h254 (by kernel_rfl) ?_
        refine Wc.fix (st' := ⟨[(3, (.v (.slx), [(0, .ex 70 true (List.map GClause.c e291_))]))], [], []⟩) [] [3] [] [] (by kernel_rfl) ?_
        refine Wc.exit ?_
        obtain rfl := Option.some.inj h253
        exact ⟨_, rfl, rfl⟩
  · rintro st ⟨e293_, rfl, rfl⟩
    refine Wc.seq ?_
    refine Wc.region [{ tk := [3] }, { tk := [22] }] [] [2] [] [] ⟨[(2, (.v (.slx), [(0, .ex 70 true (List.map GClause.c e293_))]))], [], []⟩ _ (by kernel_rfl) .nil ?_
    refine Wc.ret ?_
    obtain rfl := Option.some.inj h
    exact ⟨.inl rfl, by kernel_rfl, by kernel_rfl⟩

def plaws_toStringS_d_L1 (k : Nat) (f304_ : List ByteArray) : Nat → (List ByteArray) → Int → Option (Out (List ByteArray) (List ByteArray))
  | 0, _, _ => none
  | m + 1, f305_, b306_ =>
    if (decide (b306_ < (f304_.length : Int))) = true then
      (at' f304_ b306_).bind fun g308_ =>
      (at' f305_ b306_).bind fun g309_ =>
      plaws_toStringS_d_L1 k f304_ m (f305_.set ((b306_).toNat) g308_) (wr.i64 (b306_ + 1))
    else
      some (.done f305_)
/-- laws.toStringS -/
def plaws_toStringS_d (k : Nat) (f304_ : List ByteArray) : Option (List ByteArray) :=
  if 0 ≤ (f304_.length : Int) ∧ (f304_.length : Int) ≤ 1073741824 then
    (plaws_toStringS_d_L1 k f304_ k (List.replicate ((f304_.length : Int)).toNat (bs [])) 0).bind fun out1 => match out1 with
    | .ret r => some r
    | .done f307_ =>
      some f307_
  else none
theorem claws_toStringS_d {k : Nat} {f304_ : List ByteArray} {r : (List ByteArray)} (h : plaws_toStringS_d k f304_ = some r) : FnO Try.prog 40 [.v (.sl (List.map cS f304_)) []] (.v (.slx) [(0, .ex 9 true (List.map cS r))]) [] := by
  refine FnO.of Try.func40 (rfl : Try.f40.body = some _) (Nat.le_of_ble_eq_true (by kernel_rfl)) (Nat.le_of_ble_eq_true (by kernel_rfl)) ?_
  intro w0 X0 Fin pv0 pb gt
  unfold plaws_toStringS_d at h
  refine Wc.seq ?_
  refine Wc.region [] [] [0] [] [] ⟨[(0, (.v (.sl (List.map cS f304_)), []))], [], []⟩ _ (by kernel_rfl) .nil ?_
  refine Wc.seq ?_
  obtain ⟨h264, h⟩ := oguard h
  refine Wc.region [{}, { v := some (.int .i64 (f304_.length : Int)) }, { c := some (List.map cS (List.replicate ((f304_.length : Int)).toNat (bs []))) }, { tk := [7] }] [] [0, 3] [] [] ⟨[(0, (.v (.sl (List.map cS f304_)), [])), (3, (.v (.slx), [(0, .ex 9 true (List.map cS (List.replicate ((f304_.length : Int)).toNat (bs []))))]))], [], []⟩ _ (by kernel_rfl) (.cons (len_obl cS f304_) (.cons (rep_re (c := cS) (z := (bs [])) rfl ((f304_.length : Int)).toNat) (.cons (ms_obl h264) .nil))) ?_
  refine Wc.seq ?_
  refine Wc.seq ?_
  refine Wc.region [] [] [0, 3, 4] [] [] ⟨[(0, (.v (.sl (List.map cS f304_)), [])), (3, (.v (.slx), [(0, .ex 9 true (List.map cS (List.replicate ((f304_.length : Int)).toNat (bs []))))])), (4, (.v (.int .i64 0), []))], [], []⟩ _ (by kernel_rfl) .nil ?_
  obtain ⟨out1, h265, h⟩ := obind h
  refine Wc.lastJ (fun st => ∃ (f307_ : List ByteArray), out1 = .done f307_ ∧ st = ⟨[(3, (.v (.slx), [(0, .ex 9 true (List.map cS f307_))]))], [], []⟩) ?_ ?_
  · refine Wc.block ?_
    refine Wc.loop (fun m st => ∃ (f305_ : List ByteArray) (b306_ : Int), st = ⟨[(0, (.v (.sl (List.map cS f304_)), [])), (3, (.v (.slx), [(0, .ex 9 true (List.map cS f305_))])), (4, (.v (.int .i64 b306_), []))], [], []⟩ ∧ plaws_toStringS_d_L1 k f304_ m f305_ b306_ = some out1) ?_ k ⟨_, _, rfl, h265⟩
    rintro m st ⟨f305_, b306_, rfl, h265⟩
    cases m with
    | zero => exact (onone h265).elim
    | succ m =>
      refine Wc.seq ?_
      refine Wc.seq ?_
      refine Wc.region [{}, {}, { v := some (.int .i64 (f304_.length : Int)) }] [] [0, 3, 4, 11] [] [] ⟨[(0, (.v (.sl (List.map cS f304_)), [])), (3, (.v (.slx), [(0, .ex 9 true (List.map cS f305_))])), (4, (.v (.int .i64 b306_), [])), (11, (.v (.bool (decide (b306_ < (f304_.length : Int)))), []))], [], []⟩ _ (by kernel_rfl) (.cons (len_obl cS f304_) .nil) ?_
      rcases oif h265 with ⟨h266, h265⟩ | ⟨h266, h265⟩
      · refine Wc.condT h266 (by kernel_rfl) ?_
        refine Wc.fix (st' := ⟨[(0, (.v (.sl (List.map cS f304_)), [])), (3, (.v (.slx), [(0, .ex 9 true (List.map cS f305_))])), (4, (.v (.int .i64 b306_), []))], [], []⟩) [] [0, 3, 4] [] [] (by kernel_rfl) ?_
        refine Wc.skip ?_
        refine Wc.seq ?_
        refine Wc.block ?_
        obtain ⟨g308_, h267, h265⟩ := obind h265
        obtain ⟨g309_, h268, h265⟩ := obind h265
        refine Wc.region [{}, {}, {}, {}, { v := some (.vptr [.str g308_]) }, {}, {}, { c := some (List.map cS (f305_.set ((b306_).toNat) g308_)) }] [] [0, 3, 4] [] [] ⟨[(0, (.v (.sl (List.map cS f304_)), [])), (3, (.v (.slx), [(0, .ex 9 true (List.map cS (f305_.set ((b306_).toNat) g308_)))])), (4, (.v (.int .i64 b306_), []))], [], []⟩ _ (by kernel_rfl) (.cons (at_obl (c := cS) rfl cS_len h267) (.cons (len_ok 1 [.str g308_]) (.cons (ix_obl (c := cS) cS_len h268) (.cons (mod_obl (off := 0) (new := [.str g308_]) (c := cS) rfl rfl (at'_spec h268).2 rfl) (.cons (st_obl (sz := 1) (off := 0) (s := 1) (c := cS) rfl (at'_spec h268).2 rfl (Nat.le_of_ble_eq_true rfl)) .nil))))) ?_
        refine Wc.region [] [] [0, 3, 4] [] [] ⟨[(0, (.v (.sl (List.map cS f304_)), [])), (3, (.v (.slx), [(0, .ex 9 true (List.map cS (f305_.set ((b306_).toNat) g308_)))])), (4, (.v (.int .i64 (wr.i64 (b306_ + 1))), []))], [], []⟩ _ (by kernel_rfl) .nil ?_
        exact ⟨_, Nat.lt_succ_self _, _, _, rfl, h265⟩
      · refine Wc.condF h266 (by kernel_rfl) ?_
        refine Wc.fix (st' := ⟨[(3, (.v (.slx), [(0, .ex 9 true (List.map cS f305_))]))], [], []⟩) [] [3] [] [] (by kernel_rfl) ?_
        refine Wc.exit ?_
        obtain rfl := Option.some.inj h265
        exact ⟨_, rfl, rfl⟩
  · rintro st ⟨f307_, rfl, rfl⟩
    refine Wc.seq ?_
    refine Wc.region [{ tk := [3] }, { tk := [21] }] [] [2] [] [] ⟨[(2, (.v (.slx), [(0, .ex 9 true (List.map cS f307_))]))], [], []⟩ _ (by kernel_rfl) .nil ?_
    refine Wc.ret ?_
    obtain rfl := Option.some.inj h
    exact ⟨.inl rfl, by kernel_rfl, by kernel_rfl⟩

/-- laws.toDb -/
def plaws_toDb_d (k : Nat) (i290_ : GDb) : Option GDb :=
  (plaws_toClauseS_d k i290_.gClauses).bind fun l291_ =>
  (plaws_toStringS_d k i290_.gOpen).bind fun m292_ =>
  some (GDb.mk l291_ m292_)
theorem claws_toDb_d {k : Nat} {i290_ : GDb} {r : GDb} (h : plaws_toDb_d k i290_ = some r) : FnO Try.prog 8 [.v (.agg [.sl (List.map GClause.c i290_.gClauses), .sl (List.map cS i290_.gOpen)]) []] (.v (.agg [.slx, .slx]) [(0, .ex 70 true (List.map GClause.c r.gClauses)), (1, .ex 9 true (List.map cS r.gOpen))]) [] := by
  refine FnO.of Try.func8 (rfl : Try.f8.body = some _) (Nat.le_of_ble_eq_true (by kernel_rfl)) (Nat.le_of_ble_eq_true (by kernel_rfl)) ?_
  intro w0 X0 Fin pv0 pb gt
  unfold plaws_toDb_d at h
  refine Wc.seq ?_
  refine Wc.region [] [] [1, 2] [1, 2] [] ⟨[(1, (.ptr 1 0, [])), (2, (.ptr 2 0, []))], [(1, .cells [.sl (List.map GClause.c i290_.gClauses), .sl (List.map cS i290_.gOpen)] []), (2, .cells [.sl (List.map GClause.c []), .sl (List.map cS [])] [(0, .app 70), (1, .app 9)])], []⟩ _ (by kernel_rfl) .nil ?_
  refine Wc.seq ?_
  refine Wc.region [] [] [1, 2, 3] [1, 2, 3] [] ⟨[(1, (.ptr 1 0, [])), (2, (.ptr 2 0, [])), (3, (.ptr 3 0, []))], [(1, .cells [.sl (List.map GClause.c i290_.gClauses), .sl (List.map cS i290_.gOpen)] []), (2, .cells [.sl (List.map GClause.c []), .sl (List.map cS [])] [(0, .app 70), (1, .app 9)]), (3, .cells [.sl (List.map GClause.c []), .sl (List.map cS [])] [(0, .app 70), (1, .app 9)])], []⟩ _ (by kernel_rfl) .nil ?_
  refine Wc.seq ?_
  obtain ⟨l291_, h253, h⟩ := obind h
  refine Wc.region [{}, {}, { r := some (.v (.slx) [(0, .ex 70 true (List.map GClause.c l291_))]) }, {}, { tk := [6] }] [.so 3] [1, 2, 3] [1, 2, 3] [] ⟨[(1, (.ptr 1 0, [])), (2, (.ptr 2 0, [])), (3, (.ptr 3 0, []))], [(1, .cells [.sl (List.map GClause.c i290_.gClauses), .sl (List.map cS i290_.gOpen)] []), (2, .cells [.sl (List.map GClause.c []), .sl (List.map cS [])] [(0, .app 70), (1, .app 9)]), (3, .cells [.slx, .sl (List.map cS [])] [(0, .ex 70 true (List.map GClause.c l291_)), (1, .app 9)])], []⟩ _ (by kernel_rfl) (.cons (claws_toClauseS_d h253) .nil) ?_
  refine Wc.seq ?_
  obtain ⟨m292_, h254, h⟩ := obind h
  refine Wc.region [{}, {}, { r := some (.v (.slx) [(0, .ex 9 true (List.map cS m292_))]) }, {}, { tk := [10] }] [] [2, 3] [2, 3] [] ⟨[(2, (.ptr 2 0, [])), (3, (.ptr 3 0, []))], [(2, .cells [.sl (List.map GClause.c []), .sl (List.map cS [])] [(0, .app 70), (1, .app 9)]), (3, .cells [.slx, .slx] [(0, .ex 70 true (List.map GClause.c l291_)), (1, .ex 9 true (List.map cS m292_))])], []⟩ _ (by kernel_rfl) (.cons (claws_toStringS_d h254) .nil) ?_
  refine Wc.seq ?_
  refine Wc.region [{ md := 1 }, { tk := [12] }] [] [2] [2] [] ⟨[(2, (.ptr 2 0, []))], [(2, .cells [.slx, .slx] [(0, .ex 70 true (List.map GClause.c l291_)), (1, .ex 9 true (List.map cS m292_))])], []⟩ _ (by kernel_rfl) .nil ?_
  refine Wc.ret ?_
  obtain rfl := Option.some.inj h
  exact ⟨.inl rfl, by kernel_rfl, by kernel_rfl⟩

/-- impl.Wiped -/
def pimpl_Wiped_d (k : Nat) (i292_ : GDb) (g293_ : ByteArray) : Option GDb :=
  (pimpl_copyDb_d k i292_).bind fun i294_ =>
  (pslices_DeleteFunc___impl_Clause_impl_Clause__on1_pimpl_Wiped_1_d k i294_.gClauses g293_).bind fun l295_ =>
  some (GDb.mk l295_ i294_.gOpen)
theorem cimpl_Wiped_d {k : Nat} {i292_ : GDb} {g293_ : ByteArray} {r : GDb} (h : pimpl_Wiped_d k i292_ g293_ = some r) : FnO Try.prog 9 [.v (.agg [.sl (List.map GClause.c i292_.gClauses), .sl (List.map cS i292_.gOpen)]) [], .v (.str g293_) []] (.v (.agg [.slx, .slx]) [(0, .ex 70 true (List.map GClause.c r.gClauses)), (1, .ex 9 true (List.map cS r.gOpen))]) [] := by
  refine FnO.of Try.func9 (rfl : Try.f9.body = some _) (Nat.le_of_ble_eq_true (by kernel_rfl)) (Nat.le_of_ble_eq_true (by kernel_rfl)) ?_
  intro w0 X0 Fin pv0 pb gt
  unfold pimpl_Wiped_d at h
  refine Wc.seq ?_
  refine Wc.region [] [] [2, 3, 4] [2, 3, 4] [] ⟨[(2, (.ptr 2 0, [])), (3, (.ptr 3 0, [])), (4, (.ptr 4 0, []))], [(2, .cells [.sl (List.map GClause.c i292_.gClauses), .sl (List.map cS i292_.gOpen)] []), (3, .cells [.str g293_] []), (4, .cells [.sl (List.map GClause.c []), .sl (List.map cS [])] [(0, .app 70), (1, .app 9)])], []⟩ _ (by kernel_rfl) .nil ?_
  refine Wc.seq ?_
  obtain ⟨i294_, h254, h⟩ := obind h
  refine Wc.region [{}, { r := some (.v (.agg [.slx, .slx]) [(0, .ex 70 true (List.map GClause.c i294_.gClauses)), (1, .ex 9 true (List.map cS i294_.gOpen))]) }, {}, { tk := [7] }] [] [3, 4, 5] [3, 4, 5] [] ⟨[(3, (.ptr 3 0, [])), (4, (.ptr 4 0, [])), (5, (.ptr 5 0, []))], [(3, .cells [.str g293_] []), (4, .cells [.sl (List.map GClause.c []), .sl (List.map cS [])] [(0, .app 70), (1, .app 9)]), (5, .cells [.slx, .slx] [(0, .ex 70 true (List.map GClause.c i294_.gClauses)), (1, .ex 9 true (List.map cS i294_.gOpen))])], []⟩ _ (by kernel_rfl) (.cons (cimpl_copyDb_d h254) .nil) ?_
  refine Wc.seq ?_
  refine Wc.freeze 3 ⟨[(3, (.v (.vptr [.str g293_]), [])), (4, (.ptr 4 0, [])), (5, (.ptr 5 0, []))], [(4, .cells [.sl (List.map GClause.c []), .sl (List.map cS [])] [(0, .app 70), (1, .app 9)]), (5, .cells [.slx, .slx] [(0, .ex 70 true (List.map GClause.c i294_.gClauses)), (1, .ex 9 true (List.map cS i294_.gOpen))])], []⟩ (by kernel_rfl) ?_
  obtain ⟨l295_, h255, h⟩ := obind h
  refine Wc.region [{}, { md := 1 }, {}, { tk := [9], r := some (.v (.slx) [(0, .ex 70 true (List.map GClause.c l295_))]) }, {}, { tk := [11] }] [.so 5] [4, 5] [4, 5] [] ⟨[(4, (.ptr 4 0, [])), (5, (.ptr 5 0, []))], [(4, .cells [.sl (List.map GClause.c []), .sl (List.map cS [])] [(0, .app 70), (1, .app 9)]), (5, .cells [.slx, .slx] [(0, .ex 70 true (List.map GClause.c l295_)), (1, .ex 9 true (List.map cS i294_.gOpen))])], []⟩ _ (by kernel_rfl) (.cons (cslices_DeleteFunc___impl_Clause_impl_Clause__on1_pimpl_Wiped_1_d h255) .nil) ?_
  refine Wc.seq ?_
  refine Wc.region [{ md := 1 }, { tk := [13] }] [] [4] [4] [] ⟨[(4, (.ptr 4 0, []))], [(4, .cells [.slx, .slx] [(0, .ex 70 true (List.map GClause.c l295_)), (1, .ex 9 true (List.map cS i294_.gOpen))])], []⟩ _ (by kernel_rfl) .nil ?_
  refine Wc.ret ?_
  obtain rfl := Option.some.inj h
  exact ⟨.inl rfl, by kernel_rfl, by kernel_rfl⟩

/-- laws.FnExactWiped -/
def plaws_FnExactWiped (k : Nat) (i282_ : GDb) (g283_ : ByteArray) : Option Bool :=
  if (decide ((g283_.size : Int) > 1048576)) = true then
    some true
  else
    (plaws_szDb k i282_ 1048576).bind fun b284_ =>
    if (decide (b284_ < 0)) = true then
      some true
    else
      (plaws_toDb k i282_).bind fun i285_ =>
      (pspec_Wiped k i285_ g283_).bind fun i286_ =>
      (plaws_toDb_d k i282_).bind fun i287_ =>
      (pimpl_Wiped_d k i287_ g283_).bind fun i288_ =>
      (plaws_eqDb k i288_ i286_).bind fun n289_ =>
      if (!n289_) = true then
        some false
      else
        (plaws_toDb k i282_).bind fun i290_ =>
        (plaws_eqDb k i287_ i290_).bind fun n291_ =>
        if (!n291_) = true then
          some false
        else
          (plaws_markDb k i287_ 1).bind fun r292_ =>
          if (decide (r292_.2 < 0)) = true then
            some false
          else
            (plaws_eqDb k i288_ i286_).bind fun n293_ =>
            if (!n293_) = true then
              some false
            else
              (plaws_markDb k i288_ 1).bind fun r294_ =>
              (plaws_heldDb k r294_.1 1).bind fun b295_ =>
              if (decide (b295_ < 0)) = true then
                some false
              else
                if (b295_ != r294_.2) = true then
                  some false
                else
                  (plaws_toDb k i282_).bind fun i296_ =>
                  (pimpl_Wiped_d k i296_ g283_).bind fun i297_ =>
                  (plaws_eqDb k i297_ i286_).bind fun n298_ =>
                  if (!n298_) = true then
                    some false
                  else
                    (plaws_heldDb k r294_.1 1).bind fun b299_ =>
                    if (decide (b299_ < 0)) = true then
                      some false
                    else
                      if (b299_ != r294_.2) = true then
                        some false
                      else
                        some true
set_option maxHeartbeats 4000000 in
theorem claws_FnExactWiped {k : Nat} {i282_ : GDb} {g283_ : ByteArray} {r : Bool} (h : plaws_FnExactWiped k i282_ g283_ = some r) : FnO Try.prog 3 [.v (.agg [.sl (List.map GClause.c i282_.gClauses), .sl (List.map cS i282_.gOpen)]) [], .v (.str g283_) []] (.v (.bool r) []) [] := by
  refine FnO.of Try.func3 (rfl : Try.f3.body = some _) (Nat.le_of_ble_eq_true (by kernel_rfl)) (Nat.le_of_ble_eq_true (by kernel_rfl)) ?_
  intro w0 X0 Fin pv0 pb gt
  unfold plaws_FnExactWiped at h
  refine Wc.seq ?_
  refine Wc.region [] [] [1, 2] [2] [] ⟨[(1, (.v (.str g283_), [])), (2, (.ptr 2 0, []))], [(2, .cells [.sl (List.map GClause.c i282_.gClauses), .sl (List.map cS i282_.gOpen)] [])], []⟩ _ (by kernel_rfl) .nil ?_
  refine Wc.seq ?_
  refine Wc.seq ?_
  refine Wc.region [] [] [1, 2, 15] [2] [] ⟨[(1, (.v (.str g283_), [])), (2, (.ptr 2 0, [])), (15, (.v (.bool (decide ((g283_.size : Int) > 1048576))), []))], [(2, .cells [.sl (List.map GClause.c i282_.gClauses), .sl (List.map cS i282_.gOpen)] [])], []⟩ _ (by kernel_rfl) .nil ?_
  rcases oif h with ⟨h246, h⟩ | ⟨h246, h⟩
  · refine Wc.condT h246 (by kernel_rfl) ?_
    refine Wc.seq ?_
    refine Wc.region [] [] [4] [] [] ⟨[(4, (.v (.bool true), []))], [], []⟩ _ (by kernel_rfl) .nil ?_
    refine Wc.ret ?_
    obtain rfl := Option.some.inj h
    exact ⟨.inl rfl, by kernel_rfl, by kernel_rfl⟩
  · refine Wc.condF h246 (by kernel_rfl) ?_
    refine Wc.fix (st' := ⟨[(1, (.v (.str g283_), [])), (2, (.ptr 2 0, []))], [(2, .cells [.sl (List.map GClause.c i282_.gClauses), .sl (List.map cS i282_.gOpen)] [])], []⟩) [] [1, 2] [2] [] (by kernel_rfl) ?_
    refine Wc.skip ?_
    refine Wc.seq ?_
    refine Wc.region [] [] [1, 2, 5] [2] [] ⟨[(1, (.v (.str g283_), [])), (2, (.ptr 2 0, [])), (5, (.v (.int .i64 1048576), []))], [(2, .cells [.sl (List.map GClause.c i282_.gClauses), .sl (List.map cS i282_.gOpen)] [])], []⟩ _ (by kernel_rfl) .nil ?_
    refine Wc.seq ?_
    obtain ⟨b284_, h247, h⟩ := obind h
    refine Wc.region [{}, {}, { r := some (.v (.int .i64 b284_) []) }] [] [1, 2, 5] [2] [] ⟨[(1, (.v (.str g283_), [])), (2, (.ptr 2 0, [])), (5, (.v (.int .i64 b284_), []))], [(2, .cells [.sl (List.map GClause.c i282_.gClauses), .sl (List.map cS i282_.gOpen)] [])], []⟩ _ (by kernel_rfl) (.cons (claws_szDb h247) .nil) ?_
    refine Wc.seq ?_
    refine Wc.seq ?_
    refine Wc.region [] [] [1, 2, 20] [2] [] ⟨[(1, (.v (.str g283_), [])), (2, (.ptr 2 0, [])), (20, (.v (.bool (decide (b284_ < 0))), []))], [(2, .cells [.sl (List.map GClause.c i282_.gClauses), .sl (List.map cS i282_.gOpen)] [])], []⟩ _ (by kernel_rfl) .nil ?_
    rcases oif h with ⟨h248, h⟩ | ⟨h248, h⟩
    · refine Wc.condT h248 (by kernel_rfl) ?_
      refine Wc.seq ?_
      refine Wc.region [] [] [4] [] [] ⟨[(4, (.v (.bool true), []))], [], []⟩ _ (by kernel_rfl) .nil ?_
      refine Wc.ret ?_
      obtain rfl := Option.some.inj h
      exact ⟨.inl rfl, by kernel_rfl, by kernel_rfl⟩
    · refine Wc.condF h248 (by kernel_rfl) ?_
      refine Wc.fix (st' := ⟨[(1, (.v (.str g283_), [])), (2, (.ptr 2 0, []))], [(2, .cells [.sl (List.map GClause.c i282_.gClauses), .sl (List.map cS i282_.gOpen)] [])], []⟩) [] [1, 2] [2] [] (by kernel_rfl) ?_
      refine Wc.skip ?_
      refine Wc.seq ?_
      obtain ⟨i285_, h249, h⟩ := obind h
      obtain ⟨i286_, h250, h⟩ := obind h
      refine Wc.region [{}, { r := some (.v (.agg [.sl (List.map GClause.c i285_.gClauses), .sl (List.map cS i285_.gOpen)]) []) }, {}, { r := some (.v (.agg [.sl (List.map GClause.c i286_.gClauses), .sl (List.map cS i286_.gOpen)]) [(0, .app 70), (1, .app 9)]) }, {}, { tk := [24] }] [] [1, 2, 6] [2, 6] [] ⟨[(1, (.v (.str g283_), [])), (2, (.ptr 2 0, [])), (6, (.ptr 6 0, []))], [(2, .cells [.sl (List.map GClause.c i282_.gClauses), .sl (List.map cS i282_.gOpen)] []), (6, .cells [.sl (List.map GClause.c i286_.gClauses), .sl (List.map cS i286_.gOpen)] [(0, .app 70), (1, .app 9)])], []⟩ _ (by kernel_rfl) (.cons (claws_toDb h249) (.cons (cspec_Wiped h250) .nil)) ?_
      refine Wc.seq ?_
      obtain ⟨i287_, h251, h⟩ := obind h
      refine Wc.region [{}, { r := some (.v (.agg [.slx, .slx]) [(0, .ex 70 true (List.map GClause.c i287_.gClauses)), (1, .ex 9 true (List.map cS i287_.gOpen))]) }, {}, { tk := [26] }] [] [1, 2, 6, 7] [2, 6, 7] [] ⟨[(1, (.v (.str g283_), [])), (2, (.ptr 2 0, [])), (6, (.ptr 6 0, [])), (7, (.ptr 7 0, []))], [(2, .cells [.sl (List.map GClause.c i282_.gClauses), .sl (List.map cS i282_.gOpen)] []), (6, .cells [.sl (List.map GClause.c i286_.gClauses), .sl (List.map cS i286_.gOpen)] [(0, .app 70), (1, .app 9)]), (7, .cells [.slx, .slx] [(0, .ex 70 true (List.map GClause.c i287_.gClauses)), (1, .ex 9 true (List.map cS i287_.gOpen))])], []⟩ _ (by kernel_rfl) (.cons (claws_toDb_d h251) .nil) ?_
      refine Wc.seq ?_
      obtain ⟨i288_, h252, h⟩ := obind h
      refine Wc.region [{}, {}, { r := some (.v (.agg [.slx, .slx]) [(0, .ex 70 true (List.map GClause.c i288_.gClauses)), (1, .ex 9 true (List.map cS i288_.gOpen))]) }, {}, { tk := [29] }] [] [1, 2, 6, 7, 8] [2, 6, 7, 8] [] ⟨[(1, (.v (.str g283_), [])), (2, (.ptr 2 0, [])), (6, (.ptr 6 0, [])), (7, (.ptr 7 0, [])), (8, (.ptr 8 0, []))], [(2, .cells [.sl (List.map GClause.c i282_.gClauses), .sl (List.map cS i282_.gOpen)] []), (6, .cells [.sl (List.map GClause.c i286_.gClauses), .sl (List.map cS i286_.gOpen)] [(0, .app 70), (1, .app 9)]), (7, .cells [.slx, .slx] [(0, .ex 70 true (List.map GClause.c i287_.gClauses)), (1, .ex 9 true (List.map cS i287_.gOpen))]), (8, .cells [.slx, .slx] [(0, .ex 70 true (List.map GClause.c i288_.gClauses)), (1, .ex 9 true (List.map cS i288_.gOpen))])], []⟩ _ (by kernel_rfl) (.cons (cimpl_Wiped_d h252) .nil) ?_
      refine Wc.seq ?_
      refine Wc.seq ?_
      obtain ⟨n289_, h253, h⟩ := obind h
      refine Wc.region [{}, {}, { r := some (.v (.bool n289_) []) }] [] [1, 2, 6, 7, 8, 33] [2, 6, 7, 8] [] ⟨[(1, (.v (.str g283_), [])), (2, (.ptr 2 0, [])), (6, (.ptr 6 0, [])), (7, (.ptr 7 0, [])), (8, (.ptr 8 0, [])), (33, (.v (.bool (!n289_)), []))], [(2, .cells [.sl (List.map GClause.c i282_.gClauses), .sl (List.map cS i282_.gOpen)] []), (6, .cells [.sl (List.map GClause.c i286_.gClauses), .sl (List.map cS i286_.gOpen)] [(0, .app 70), (1, .app 9)]), (7, .cells [.slx, .slx] [(0, .ex 70 true (List.map GClause.c i287_.gClauses)), (1, .ex 9 true (List.map cS i287_.gOpen))]), (8, .cells [.slx, .slx] [(0, .ex 70 true (List.map GClause.c i288_.gClauses)), (1, .ex 9 true (List.map cS i288_.gOpen))])], []⟩ _ (by kernel_rfl) (.cons (claws_eqDb h253) .nil) ?_
      rcases oif h with ⟨h254, h⟩ | ⟨h254, h⟩
      · refine Wc.condT h254 (by kernel_rfl) ?_
        refine Wc.seq ?_
        refine Wc.region [] [] [4] [] [] ⟨[(4, (.v (.bool false), []))], [], []⟩ _ (by kernel_rfl) .nil ?_
        refine Wc.ret ?_
        obtain rfl := Option.some.inj h
        exact ⟨.inl rfl, by kernel_rfl, by kernel_rfl⟩
      · refine Wc.condF h254 (by kernel_rfl) ?_
        refine Wc.fix (st' := ⟨[(1, (.v (.str g283_), [])), (2, (.ptr 2 0, [])), (6, (.ptr 6 0, [])), (7, (.ptr 7 0, [])), (8, (.ptr 8 0, []))], [(2, .cells [.sl (List.map GClause.c i282_.gClauses), .sl (List.map cS i282_.gOpen)] []), (6, .cells [.sl (List.map GClause.c i286_.gClauses), .sl (List.map cS i286_.gOpen)] [(0, .app 70), (1, .app 9)]), (7, .cells [.slx, .slx] [(0, .ex 70 true (List.map GClause.c i287_.gClauses)), (1, .ex 9 true (List.map cS i287_.gOpen))]), (8, .cells [.slx, .slx] [(0, .ex 70 true (List.map GClause.c i288_.gClauses)), (1, .ex 9 true (List.map cS i288_.gOpen))])], []⟩) [] [1, 2, 6, 7, 8] [2, 6, 7, 8] [] (by kernel_rfl) ?_
        refine Wc.skip ?_
        refine Wc.seq ?_
        refine Wc.seq ?_
        obtain ⟨i290_, h255, h⟩ := obind h
        obtain ⟨n291_, h256, h⟩ := obind h
        refine Wc.draw hmix [{}, {}, { r := some (.v (.agg [.sl (List.map GClause.c i290_.gClauses), .sl (List.map cS i290_.gOpen)]) []) }, { r := some (.v (.bool n291_) []) }] [] [1, 2, 6, 7, 8, 38] [2, 6, 7, 8] [] ⟨[(1, (.v (.str g283_), [])), (2, (.ptr 2 0, [])), (6, (.ptr 6 0, [])), (7, (.ptr 7 0, [])), (8, (.ptr 8 0, [])), (38, (.v (.bool (!n291_)), []))], [(2, .cells [.sl (List.map GClause.c i282_.gClauses), .sl (List.map cS i282_.gOpen)] []), (6, .cells [.sl (List.map GClause.c i286_.gClauses), .sl (List.map cS i286_.gOpen)] [(0, .app 70), (1, .app 9)]), (7, .cells [.slx, .slx] [(0, .ex 70 true (List.map GClause.c i287_.gClauses)), (1, .ex 9 true (List.map cS i287_.gOpen))]), (8, .cells [.slx, .slx] [(0, .ex 70 true (List.map GClause.c i288_.gClauses)), (1, .ex 9 true (List.map cS i288_.gOpen))])], []⟩ _ (by kernel_rfl) (fun X => by kernel_rfl) (.cons (claws_toDb h255) (.cons (claws_eqDb h256) .nil)) ?_
        rcases oif h with ⟨h257, h⟩ | ⟨h257, h⟩
        · refine Wc.condT h257 (by kernel_rfl) ?_
          refine Wc.seq ?_
          refine Wc.region [] [] [4] [] [] ⟨[(4, (.v (.bool false), []))], [], []⟩ _ (by kernel_rfl) .nil ?_
          refine Wc.ret ?_
          obtain rfl := Option.some.inj h
          exact ⟨.inl rfl, by kernel_rfl, by kernel_rfl⟩
        · refine Wc.condF h257 (by kernel_rfl) ?_
          refine Wc.fix (st' := ⟨[(1, (.v (.str g283_), [])), (2, (.ptr 2 0, [])), (6, (.ptr 6 0, [])), (7, (.ptr 7 0, [])), (8, (.ptr 8 0, []))], [(2, .cells [.sl (List.map GClause.c i282_.gClauses), .sl (List.map cS i282_.gOpen)] []), (6, .cells [.sl (List.map GClause.c i286_.gClauses), .sl (List.map cS i286_.gOpen)] [(0, .app 70), (1, .app 9)]), (7, .cells [.slx, .slx] [(0, .ex 70 true (List.map GClause.c i287_.gClauses)), (1, .ex 9 true (List.map cS i287_.gOpen))]), (8, .cells [.slx, .slx] [(0, .ex 70 true (List.map GClause.c i288_.gClauses)), (1, .ex 9 true (List.map cS i288_.gOpen))])], []⟩) [] [1, 2, 6, 7, 8] [2, 6, 7, 8] [] (by kernel_rfl) ?_
          refine Wc.skip ?_
          refine Wc.seq ?_
          refine Wc.region [] [] [1, 2, 6, 7, 8, 9] [2, 6, 7, 8] [] ⟨[(1, (.v (.str g283_), [])), (2, (.ptr 2 0, [])), (6, (.ptr 6 0, [])), (7, (.ptr 7 0, [])), (8, (.ptr 8 0, [])), (9, (.v (.int .i64 1), []))], [(2, .cells [.sl (List.map GClause.c i282_.gClauses), .sl (List.map cS i282_.gOpen)] []), (6, .cells [.sl (List.map GClause.c i286_.gClauses), .sl (List.map cS i286_.gOpen)] [(0, .app 70), (1, .app 9)]), (7, .cells [.slx, .slx] [(0, .ex 70 true (List.map GClause.c i287_.gClauses)), (1, .ex 9 true (List.map cS i287_.gOpen))]), (8, .cells [.slx, .slx] [(0, .ex 70 true (List.map GClause.c i288_.gClauses)), (1, .ex 9 true (List.map cS i288_.gOpen))])], []⟩ _ (by kernel_rfl) .nil ?_
          refine Wc.seq ?_
          obtain ⟨r292_, h258, h⟩ := obind h
          refine Wc.region [{}, {}, { io := [0], r := some (.v (.int .i64 r292_.2) []), outs := [(0, .v .undef [(0, .ex 1000000007 true (List.map GClause.c r292_.1.gClauses)), (1, .ex 1000000007 true (List.map cS r292_.1.gOpen))])] }] [] [1, 2, 6, 8, 9] [2, 6, 8] [] ⟨[(1, (.v (.str g283_), [])), (2, (.ptr 2 0, [])), (6, (.ptr 6 0, [])), (8, (.ptr 8 0, [])), (9, (.v (.int .i64 r292_.2), []))], [(2, .cells [.sl (List.map GClause.c i282_.gClauses), .sl (List.map cS i282_.gOpen)] []), (6, .cells [.sl (List.map GClause.c i286_.gClauses), .sl (List.map cS i286_.gOpen)] [(0, .app 70), (1, .app 9)]), (8, .cells [.slx, .slx] [(0, .ex 70 true (List.map GClause.c i288_.gClauses)), (1, .ex 9 true (List.map cS i288_.gOpen))])], []⟩ _ (by kernel_rfl) (.cons (FnO.any (args := [.io (.agg [.slx, .slx]) [(0, .ex 70 true (List.map GClause.c i287_.gClauses)), (1, .ex 9 true (List.map cS i287_.gOpen))], .v (.int .i64 1) []]) (claws_markDb h258)) .nil) ?_
          refine Wc.seq ?_
          refine Wc.seq ?_
          rcases oif h with ⟨h259, h⟩ | ⟨h259, h⟩
          · refine Wc.region [{}, {}, { re := some (.bool true) }] [] [1, 2, 6, 8, 49] [2, 6, 8] [] ⟨[(1, (.v (.str g283_), [])), (2, (.ptr 2 0, [])), (6, (.ptr 6 0, [])), (8, (.ptr 8 0, [])), (49, (.v (.bool true), []))], [(2, .cells [.sl (List.map GClause.c i282_.gClauses), .sl (List.map cS i282_.gOpen)] []), (6, .cells [.sl (List.map GClause.c i286_.gClauses), .sl (List.map cS i286_.gOpen)] [(0, .app 70), (1, .app 9)]), (8, .cells [.slx, .slx] [(0, .ex 70 true (List.map GClause.c i288_.gClauses)), (1, .ex 9 true (List.map cS i288_.gOpen))])], []⟩ _ (by kernel_rfl) (.cons (congrArg AV.bool h259) .nil) ?_
            refine Wc.condT rfl (by kernel_rfl) ?_
            refine Wc.seq ?_
            refine Wc.region [] [] [4] [] [] ⟨[(4, (.v (.bool false), []))], [], []⟩ _ (by kernel_rfl) .nil ?_
            refine Wc.ret ?_
            obtain rfl := Option.some.inj h
            exact ⟨.inl rfl, by kernel_rfl, by kernel_rfl⟩
          · obtain ⟨n293_, h260, h⟩ := obind h
            refine Wc.region [{}, {}, { re := some (.bool false) }, {}, {}, { r := some (.v (.bool n293_) []) }] [] [1, 2, 6, 8, 49] [2, 6, 8] [] ⟨[(1, (.v (.str g283_), [])), (2, (.ptr 2 0, [])), (6, (.ptr 6 0, [])), (8, (.ptr 8 0, [])), (49, (.v (.bool (!n293_)), []))], [(2, .cells [.sl (List.map GClause.c i282_.gClauses), .sl (List.map cS i282_.gOpen)] []), (6, .cells [.sl (List.map GClause.c i286_.gClauses), .sl (List.map cS i286_.gOpen)] [(0, .app 70), (1, .app 9)]), (8, .cells [.slx, .slx] [(0, .ex 70 true (List.map GClause.c i288_.gClauses)), (1, .ex 9 true (List.map cS i288_.gOpen))])], []⟩ _ (by kernel_rfl) (.cons (congrArg AV.bool h259) (.cons (claws_eqDb h260) .nil)) ?_
            rcases oif h with ⟨h261, h⟩ | ⟨h261, h⟩
            · refine Wc.condT h261 (by kernel_rfl) ?_
              refine Wc.seq ?_
              refine Wc.region [] [] [4] [] [] ⟨[(4, (.v (.bool false), []))], [], []⟩ _ (by kernel_rfl) .nil ?_
              refine Wc.ret ?_
              obtain rfl := Option.some.inj h
              exact ⟨.inl rfl, by kernel_rfl, by kernel_rfl⟩
            · refine Wc.condF h261 (by kernel_rfl) ?_
              refine Wc.fix (st' := ⟨[(1, (.v (.str g283_), [])), (2, (.ptr 2 0, [])), (6, (.ptr 6 0, [])), (8, (.ptr 8 0, []))], [(2, .cells [.sl (List.map GClause.c i282_.gClauses), .sl (List.map cS i282_.gOpen)] []), (6, .cells [.sl (List.map GClause.c i286_.gClauses), .sl (List.map cS i286_.gOpen)] [(0, .app 70), (1, .app 9)]), (8, .cells [.slx, .slx] [(0, .ex 70 true (List.map GClause.c i288_.gClauses)), (1, .ex 9 true (List.map cS i288_.gOpen))])], []⟩) [] [1, 2, 6, 8] [2, 6, 8] [] (by kernel_rfl) ?_
              refine Wc.skip ?_
              refine Wc.seq ?_
              refine Wc.region [] [] [1, 2, 6, 8, 10] [2, 6, 8] [] ⟨[(1, (.v (.str g283_), [])), (2, (.ptr 2 0, [])), (6, (.ptr 6 0, [])), (8, (.ptr 8 0, [])), (10, (.v (.int .i64 1), []))], [(2, .cells [.sl (List.map GClause.c i282_.gClauses), .sl (List.map cS i282_.gOpen)] []), (6, .cells [.sl (List.map GClause.c i286_.gClauses), .sl (List.map cS i286_.gOpen)] [(0, .app 70), (1, .app 9)]), (8, .cells [.slx, .slx] [(0, .ex 70 true (List.map GClause.c i288_.gClauses)), (1, .ex 9 true (List.map cS i288_.gOpen))])], []⟩ _ (by kernel_rfl) .nil ?_
              refine Wc.seq ?_
              obtain ⟨r294_, h262, h⟩ := obind h
              refine Wc.region [{}, {}, { io := [0], r := some (.v (.int .i64 r294_.2) []), outs := [(0, .v .undef [(0, .ex 1000000007 true (List.map GClause.c r294_.1.gClauses)), (1, .ex 1000000007 true (List.map cS r294_.1.gOpen))])] }] [] [1, 2, 6, 8, 10] [2, 6, 8] [] ⟨[(1, (.v (.str g283_), [])), (2, (.ptr 2 0, [])), (6, (.ptr 6 0, [])), (8, (.ptr 8 0, [])), (10, (.v (.int .i64 r294_.2), []))], [(2, .cells [.sl (List.map GClause.c i282_.gClauses), .sl (List.map cS i282_.gOpen)] []), (6, .cells [.sl (List.map GClause.c i286_.gClauses), .sl (List.map cS i286_.gOpen)] [(0, .app 70), (1, .app 9)]), (8, .cells [.slx, .slx] [(0, .ex 1000000007 true (List.map GClause.c r294_.1.gClauses)), (1, .ex 1000000007 true (List.map cS r294_.1.gOpen))])], []⟩ _ (by kernel_rfl) (.cons (FnO.any (args := [.io (.agg [.slx, .slx]) [(0, .ex 70 true (List.map GClause.c i288_.gClauses)), (1, .ex 9 true (List.map cS i288_.gOpen))], .v (.int .i64 1) []]) (claws_markDb h262)) .nil) ?_
              refine Wc.seq ?_
              refine Wc.region [] [] [1, 2, 6, 8, 10, 11] [2, 6, 8] [] ⟨[(1, (.v (.str g283_), [])), (2, (.ptr 2 0, [])), (6, (.ptr 6 0, [])), (8, (.ptr 8 0, [])), (10, (.v (.int .i64 r294_.2), [])), (11, (.v (.int .i64 1), []))], [(2, .cells [.sl (List.map GClause.c i282_.gClauses), .sl (List.map cS i282_.gOpen)] []), (6, .cells [.sl (List.map GClause.c i286_.gClauses), .sl (List.map cS i286_.gOpen)] [(0, .app 70), (1, .app 9)]), (8, .cells [.slx, .slx] [(0, .ex 1000000007 true (List.map GClause.c r294_.1.gClauses)), (1, .ex 1000000007 true (List.map cS r294_.1.gOpen))])], []⟩ _ (by kernel_rfl) .nil ?_
              refine Wc.seq ?_
              obtain ⟨b295_, h263, h⟩ := obind h
              refine Wc.region [{}, {}, { r := some (.v (.int .i64 b295_) []) }] [] [1, 2, 6, 8, 10, 11] [2, 6, 8] [] ⟨[(1, (.v (.str g283_), [])), (2, (.ptr 2 0, [])), (6, (.ptr 6 0, [])), (8, (.ptr 8 0, [])), (10, (.v (.int .i64 r294_.2), [])), (11, (.v (.int .i64 b295_), []))], [(2, .cells [.sl (List.map GClause.c i282_.gClauses), .sl (List.map cS i282_.gOpen)] []), (6, .cells [.sl (List.map GClause.c i286_.gClauses), .sl (List.map cS i286_.gOpen)] [(0, .app 70), (1, .app 9)]), (8, .cells [.slx, .slx] [(0, .ex 1000000007 true (List.map GClause.c r294_.1.gClauses)), (1, .ex 1000000007 true (List.map cS r294_.1.gOpen))])], []⟩ _ (by kernel_rfl) (.cons (claws_heldDb h263) .nil) ?_
              refine Wc.seq ?_
              refine Wc.seq ?_
              refine Wc.region [] [] [1, 2, 6, 8, 10, 11, 57] [2, 6, 8] [] ⟨[(1, (.v (.str g283_), [])), (2, (.ptr 2 0, [])), (6, (.ptr 6 0, [])), (8, (.ptr 8 0, [])), (10, (.v (.int .i64 r294_.2), [])), (11, (.v (.int .i64 b295_), [])), (57, (.v (.bool (decide (b295_ < 0))), []))], [(2, .cells [.sl (List.map GClause.c i282_.gClauses), .sl (List.map cS i282_.gOpen)] []), (6, .cells [.sl (List.map GClause.c i286_.gClauses), .sl (List.map cS i286_.gOpen)] [(0, .app 70), (1, .app 9)]), (8, .cells [.slx, .slx] [(0, .ex 1000000007 true (List.map GClause.c r294_.1.gClauses)), (1, .ex 1000000007 true (List.map cS r294_.1.gOpen))])], []⟩ _ (by kernel_rfl) .nil ?_
              rcases oif h with ⟨h264, h⟩ | ⟨h264, h⟩
              · refine Wc.condT h264 (by kernel_rfl) ?_
                refine Wc.seq ?_
                refine Wc.region [] [] [4] [] [] ⟨[(4, (.v (.bool false), []))], [], []⟩ _ (by kernel_rfl) .nil ?_
                refine Wc.ret ?_
                obtain rfl := Option.some.inj h
                exact ⟨.inl rfl, by kernel_rfl, by kernel_rfl⟩
              · refine Wc.condF h264 (by kernel_rfl) ?_
                refine Wc.fix (st' := ⟨[(1, (.v (.str g283_), [])), (2, (.ptr 2 0, [])), (6, (.ptr 6 0, [])), (8, (.ptr 8 0, [])), (10, (.v (.int .i64 r294_.2), [])), (11, (.v (.int .i64 b295_), []))], [(2, .cells [.sl (List.map GClause.c i282_.gClauses), .sl (List.map cS i282_.gOpen)] []), (6, .cells [.sl (List.map GClause.c i286_.gClauses), .sl (List.map cS i286_.gOpen)] [(0, .app 70), (1, .app 9)]), (8, .cells [.slx, .slx] [(0, .ex 1000000007 true (List.map GClause.c r294_.1.gClauses)), (1, .ex 1000000007 true (List.map cS r294_.1.gOpen))])], []⟩) [] [1, 2, 6, 8, 10, 11] [2, 6, 8] [] (by kernel_rfl) ?_
                refine Wc.skip ?_
                refine Wc.seq ?_
                refine Wc.seq ?_
                refine Wc.region [] [] [1, 2, 6, 8, 10, 60] [2, 6, 8] [] ⟨[(1, (.v (.str g283_), [])), (2, (.ptr 2 0, [])), (6, (.ptr 6 0, [])), (8, (.ptr 8 0, [])), (10, (.v (.int .i64 r294_.2), [])), (60, (.v (.bool (b295_ != r294_.2)), []))], [(2, .cells [.sl (List.map GClause.c i282_.gClauses), .sl (List.map cS i282_.gOpen)] []), (6, .cells [.sl (List.map GClause.c i286_.gClauses), .sl (List.map cS i286_.gOpen)] [(0, .app 70), (1, .app 9)]), (8, .cells [.slx, .slx] [(0, .ex 1000000007 true (List.map GClause.c r294_.1.gClauses)), (1, .ex 1000000007 true (List.map cS r294_.1.gOpen))])], []⟩ _ (by kernel_rfl) .nil ?_
                rcases oif h with ⟨h265, h⟩ | ⟨h265, h⟩
                · refine Wc.condT h265 (by kernel_rfl) ?_
                  refine Wc.seq ?_
                  refine Wc.region [] [] [4] [] [] ⟨[(4, (.v (.bool false), []))], [], []⟩ _ (by kernel_rfl) .nil ?_
                  refine Wc.ret ?_
                  obtain rfl := Option.some.inj h
                  exact ⟨.inl rfl, by kernel_rfl, by kernel_rfl⟩
                · refine Wc.condF h265 (by kernel_rfl) ?_
                  refine Wc.fix (st' := ⟨[(1, (.v (.str g283_), [])), (2, (.ptr 2 0, [])), (6, (.ptr 6 0, [])), (8, (.ptr 8 0, [])), (10, (.v (.int .i64 r294_.2), []))], [(2, .cells [.sl (List.map GClause.c i282_.gClauses), .sl (List.map cS i282_.gOpen)] []), (6, .cells [.sl (List.map GClause.c i286_.gClauses), .sl (List.map cS i286_.gOpen)] [(0, .app 70), (1, .app 9)]), (8, .cells [.slx, .slx] [(0, .ex 1000000007 true (List.map GClause.c r294_.1.gClauses)), (1, .ex 1000000007 true (List.map cS r294_.1.gOpen))])], []⟩) [] [1, 2, 6, 8, 10] [2, 6, 8] [] (by kernel_rfl) ?_
                  refine Wc.skip ?_
                  refine Wc.seq ?_
                  obtain ⟨i296_, h266, h⟩ := obind h
                  obtain ⟨i297_, h267, h⟩ := obind h
                  refine Wc.region [{}, { r := some (.v (.agg [.sl (List.map GClause.c i296_.gClauses), .sl (List.map cS i296_.gOpen)]) []) }, {}, { r := some (.v (.agg [.slx, .slx]) [(0, .ex 70 true (List.map GClause.c i297_.gClauses)), (1, .ex 9 true (List.map cS i297_.gOpen))]) }, {}, { tk := [64] }] [] [6, 8, 10, 12] [6, 8, 12] [] ⟨[(6, (.ptr 6 0, [])), (8, (.ptr 8 0, [])), (10, (.v (.int .i64 r294_.2), [])), (12, (.ptr 12 0, []))], [(6, .cells [.sl (List.map GClause.c i286_.gClauses), .sl (List.map cS i286_.gOpen)] [(0, .app 70), (1, .app 9)]), (8, .cells [.slx, .slx] [(0, .ex 1000000007 true (List.map GClause.c r294_.1.gClauses)), (1, .ex 1000000007 true (List.map cS r294_.1.gOpen))]), (12, .cells [.slx, .slx] [(0, .ex 70 true (List.map GClause.c i297_.gClauses)), (1, .ex 9 true (List.map cS i297_.gOpen))])], []⟩ _ (by kernel_rfl) (.cons (claws_toDb h266) (.cons (cimpl_Wiped_d h267) .nil)) ?_
                  refine Wc.seq ?_
                  refine Wc.seq ?_
                  obtain ⟨n298_, h268, h⟩ := obind h
                  refine Wc.region [{}, {}, { r := some (.v (.bool n298_) []) }] [] [8, 10, 68] [8] [] ⟨[(8, (.ptr 8 0, [])), (10, (.v (.int .i64 r294_.2), [])), (68, (.v (.bool (!n298_)), []))], [(8, .cells [.slx, .slx] [(0, .ex 1000000007 true (List.map GClause.c r294_.1.gClauses)), (1, .ex 1000000007 true (List.map cS r294_.1.gOpen))])], []⟩ _ (by kernel_rfl) (.cons (claws_eqDb h268) .nil) ?_
                  rcases oif h with ⟨h269, h⟩ | ⟨h269, h⟩
                  · refine Wc.condT h269 (by kernel_rfl) ?_
                    refine Wc.seq ?_
                    refine Wc.region [] [] [4] [] [] ⟨[(4, (.v (.bool false), []))], [], []⟩ _ (by kernel_rfl) .nil ?_
                    refine Wc.ret ?_
                    obtain rfl := Option.some.inj h
                    exact ⟨.inl rfl, by kernel_rfl, by kernel_rfl⟩
                  · refine Wc.condF h269 (by kernel_rfl) ?_
                    refine Wc.fix (st' := ⟨[(8, (.ptr 8 0, [])), (10, (.v (.int .i64 r294_.2), []))], [(8, .cells [.slx, .slx] [(0, .ex 1000000007 true (List.map GClause.c r294_.1.gClauses)), (1, .ex 1000000007 true (List.map cS r294_.1.gOpen))])], []⟩) [] [8, 10] [8] [] (by kernel_rfl) ?_
                    refine Wc.skip ?_
                    refine Wc.seq ?_
                    refine Wc.region [] [] [8, 10, 11] [8] [] ⟨[(8, (.ptr 8 0, [])), (10, (.v (.int .i64 r294_.2), [])), (11, (.v (.int .i64 1), []))], [(8, .cells [.slx, .slx] [(0, .ex 1000000007 true (List.map GClause.c r294_.1.gClauses)), (1, .ex 1000000007 true (List.map cS r294_.1.gOpen))])], []⟩ _ (by kernel_rfl) .nil ?_
                    refine Wc.seq ?_
                    obtain ⟨b299_, h270, h⟩ := obind h
                    refine Wc.region [{}, {}, { r := some (.v (.int .i64 b299_) []) }] [] [10, 11] [] [] ⟨[(10, (.v (.int .i64 r294_.2), [])), (11, (.v (.int .i64 b299_), []))], [], []⟩ _ (by kernel_rfl) (.cons (claws_heldDb h270) .nil) ?_
                    refine Wc.seq ?_
                    refine Wc.seq ?_
                    refine Wc.region [] [] [10, 11, 73] [] [] ⟨[(10, (.v (.int .i64 r294_.2), [])), (11, (.v (.int .i64 b299_), [])), (73, (.v (.bool (decide (b299_ < 0))), []))], [], []⟩ _ (by kernel_rfl) .nil ?_
                    rcases oif h with ⟨h271, h⟩ | ⟨h271, h⟩
                    · refine Wc.condT h271 (by kernel_rfl) ?_
                      refine Wc.seq ?_
                      refine Wc.region [] [] [4] [] [] ⟨[(4, (.v (.bool false), []))], [], []⟩ _ (by kernel_rfl) .nil ?_
                      refine Wc.ret ?_
                      obtain rfl := Option.some.inj h
                      exact ⟨.inl rfl, by kernel_rfl, by kernel_rfl⟩
                    · refine Wc.condF h271 (by kernel_rfl) ?_
                      refine Wc.fix (st' := ⟨[(10, (.v (.int .i64 r294_.2), [])), (11, (.v (.int .i64 b299_), []))], [], []⟩) [] [10, 11] [] [] (by kernel_rfl) ?_
                      refine Wc.skip ?_
                      refine Wc.seq ?_
                      refine Wc.seq ?_
                      refine Wc.region [] [] [76] [] [] ⟨[(76, (.v (.bool (b299_ != r294_.2)), []))], [], []⟩ _ (by kernel_rfl) .nil ?_
                      rcases oif h with ⟨h272, h⟩ | ⟨h272, h⟩
                      · refine Wc.condT h272 (by kernel_rfl) ?_
                        refine Wc.seq ?_
                        refine Wc.region [] [] [4] [] [] ⟨[(4, (.v (.bool false), []))], [], []⟩ _ (by kernel_rfl) .nil ?_
                        refine Wc.ret ?_
                        obtain rfl := Option.some.inj h
                        exact ⟨.inl rfl, by kernel_rfl, by kernel_rfl⟩
                      · refine Wc.condF h272 (by kernel_rfl) ?_
                        refine Wc.fix (st' := ⟨[], [], []⟩) [] [] [] [] (by kernel_rfl) ?_
                        refine Wc.skip ?_
                        refine Wc.seq ?_
                        refine Wc.region [] [] [4] [] [] ⟨[(4, (.v (.bool true), []))], [], []⟩ _ (by kernel_rfl) .nil ?_
                        refine Wc.ret ?_
                        obtain rfl := Option.some.inj h
                        exact ⟨.inl rfl, by kernel_rfl, by kernel_rfl⟩
end Go.Proofs.Ytkmifafdenblcaa

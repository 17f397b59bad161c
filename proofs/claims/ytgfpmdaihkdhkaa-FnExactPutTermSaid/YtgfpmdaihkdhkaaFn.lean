/- What the functions do, part 3. -/
import Derived.Test.YtgfpmdaihkdhkaaFnb
set_option linter.unusedVariables false
set_option linter.unusedSimpArgs false
namespace Go.Proofs.Ytgfpmdaihkdhkaa
open Go.RowKit Go.Bv
def plaws_heldIntS_L1 (k : Nat) (a377_ : List Int) : Nat → Int → Int → Option (Out Int Int)
  | 0, _, _ => none
  | m + 1, b379_, b380_ =>
    if (decide (b380_ < (a377_.length : Int))) = true then
      (at' a377_ b380_).bind fun b382_ =>
      if (b382_ != b379_) = true then
        some (.ret (-1))
      else
        plaws_heldIntS_L1 k a377_ m (wr.i64 (b379_ + 1)) (wr.i64 (b380_ + 1))
    else
      some (.done b379_)
/-- laws.heldIntS -/
def plaws_heldIntS (k : Nat) (a377_ : List Int) (b378_ : Int) : Option Int :=
  (plaws_heldIntS_L1 k a377_ k b378_ 0).bind fun out1 => match out1 with
  | .ret r => some r
  | .done b381_ =>
    some b381_
theorem claws_heldIntS {k : Nat} {a377_ : List Int} {b378_ : Int} {r : Int} (h : plaws_heldIntS k a377_ b378_ = some r) : FnO Try.prog 94 [.v (.sl (List.map cI.i64 a377_)) [], .v (.int .i64 b378_) []] (.v (.int .i64 r) []) [] := by
  refine FnO.of Try.func94 (rfl : Try.f94.body = some _) (Nat.le_of_ble_eq_true (by kernel_rfl)) (Nat.le_of_ble_eq_true (by kernel_rfl)) ?_
  intro w0 X0 Fin pv0 pb
  unfold plaws_heldIntS at h
  refine Wc.seq ?_
  refine Wc.region [] [] [0, 1] [] [] ⟨[(0, (.v (.sl (List.map cI.i64 a377_)), [])), (1, (.v (.int .i64 b378_), []))], [], []⟩ _ (by kernel_rfl) .nil ?_
  refine Wc.seq ?_
  refine Wc.seq ?_
  refine Wc.region [] [] [0, 1, 5] [] [] ⟨[(0, (.v (.sl (List.map cI.i64 a377_)), [])), (1, (.v (.int .i64 b378_), [])), (5, (.v (.int .i64 0), []))], [], []⟩ _ (by kernel_rfl) .nil ?_
  obtain ⟨out1, h413, h⟩ := obind h
  refine Wc.lastJ (fun st => ∃ (b381_ : Int), out1 = .done b381_ ∧ st = ⟨[(1, (.v (.int .i64 b381_), []))], [], []⟩) ?_ ?_
  · refine Wc.block ?_
    refine Wc.loop (fun m st => ∃ (b379_ : Int) (b380_ : Int), st = ⟨[(0, (.v (.sl (List.map cI.i64 a377_)), [])), (1, (.v (.int .i64 b379_), [])), (5, (.v (.int .i64 b380_), []))], [], []⟩ ∧ plaws_heldIntS_L1 k a377_ m b379_ b380_ = some out1) ?_ k ⟨_, _, rfl, h413⟩
    rintro m st ⟨b379_, b380_, rfl, h413⟩
    cases m with
    | zero => exact (onone h413).elim
    | succ m =>
      refine Wc.seq ?_
      refine Wc.seq ?_
      refine Wc.region [{}, {}, { v := some (.int .i64 (a377_.length : Int)) }] [] [0, 1, 5, 9] [] [] ⟨[(0, (.v (.sl (List.map cI.i64 a377_)), [])), (1, (.v (.int .i64 b379_), [])), (5, (.v (.int .i64 b380_), [])), (9, (.v (.bool (decide (b380_ < (a377_.length : Int)))), []))], [], []⟩ _ (by kernel_rfl) (.cons (len_obl cI.i64 a377_) .nil) ?_
      rcases oif h413 with ⟨h414, h413⟩ | ⟨h414, h413⟩
      · refine Wc.condT h414 (by kernel_rfl) ?_
        refine Wc.fix (st' := ⟨[(0, (.v (.sl (List.map cI.i64 a377_)), [])), (1, (.v (.int .i64 b379_), [])), (5, (.v (.int .i64 b380_), []))], [], []⟩) [] [0, 1, 5] [] [] (by kernel_rfl) ?_
        refine Wc.skip ?_
        refine Wc.seq ?_
        refine Wc.block ?_
        refine Wc.seq ?_
        refine Wc.seq ?_
        obtain ⟨b382_, h415, h413⟩ := obind h413
        refine Wc.region [{}, {}, { v := some (.vptr [.int .i64 b382_]) }] [] [0, 1, 5, 17] [] [] ⟨[(0, (.v (.sl (List.map cI.i64 a377_)), [])), (1, (.v (.int .i64 b379_), [])), (5, (.v (.int .i64 b380_), [])), (17, (.v (.bool (b382_ != b379_)), []))], [], []⟩ _ (by kernel_rfl) (.cons (at_obl (c := cI.i64) rfl cI.i64_len h415) (.cons (len_ok 1 [.int .i64 b382_]) .nil)) ?_
        rcases oif h413 with ⟨h416, h413⟩ | ⟨h416, h413⟩
        · refine Wc.condT h416 (by kernel_rfl) ?_
          refine Wc.seq ?_
          refine Wc.region [] [] [4] [] [] ⟨[(4, (.v (.int .i64 (-1)), []))], [], []⟩ _ (by kernel_rfl) .nil ?_
          refine Wc.ret ?_
          obtain rfl := Option.some.inj h413
          obtain rfl := Option.some.inj h
          exact ⟨.inl rfl, by kernel_rfl, by kernel_rfl⟩
        · refine Wc.condF h416 (by kernel_rfl) ?_
          refine Wc.fix (st' := ⟨[(0, (.v (.sl (List.map cI.i64 a377_)), [])), (1, (.v (.int .i64 b379_), [])), (5, (.v (.int .i64 b380_), []))], [], []⟩) [] [0, 1, 5] [] [] (by kernel_rfl) ?_
          refine Wc.skip ?_
          refine Wc.region [] [] [0, 1, 5] [] [] ⟨[(0, (.v (.sl (List.map cI.i64 a377_)), [])), (1, (.v (.int .i64 (wr.i64 (b379_ + 1))), [])), (5, (.v (.int .i64 b380_), []))], [], []⟩ _ (by kernel_rfl) .nil ?_
          refine Wc.region [] [] [0, 1, 5] [] [] ⟨[(0, (.v (.sl (List.map cI.i64 a377_)), [])), (1, (.v (.int .i64 (wr.i64 (b379_ + 1))), [])), (5, (.v (.int .i64 (wr.i64 (b380_ + 1))), []))], [], []⟩ _ (by kernel_rfl) .nil ?_
          exact ⟨_, Nat.lt_succ_self _, _, _, rfl, h413⟩
      · refine Wc.condF h414 (by kernel_rfl) ?_
        refine Wc.fix (st' := ⟨[(1, (.v (.int .i64 b379_), []))], [], []⟩) [] [1] [] [] (by kernel_rfl) ?_
        refine Wc.exit ?_
        obtain rfl := Option.some.inj h413
        exact ⟨_, rfl, rfl⟩
  · rintro st ⟨b381_, rfl, rfl⟩
    refine Wc.seq ?_
    refine Wc.region [] [] [4] [] [] ⟨[(4, (.v (.int .i64 b381_), []))], [], []⟩ _ (by kernel_rfl) .nil ?_
    refine Wc.ret ?_
    obtain rfl := Option.some.inj h
    exact ⟨.inl rfl, by kernel_rfl, by kernel_rfl⟩

def plaws_heldCellS_L1 (k : Nat) (d383_ : List GCell) : Nat → Int → Int → Option (Out Int Int)
  | 0, _, _ => none
  | m + 1, b385_, b386_ =>
    if (decide (b386_ < (d383_.length : Int))) = true then
      (at' d383_ b386_).bind fun c388_ =>
      if (c388_.gKind != b385_) = true then
        some (.ret (-1))
      else
        (at' d383_ b386_).bind fun c389_ =>
        (plaws_markText k (wr.i64 (b385_ + 1))).bind fun m390_ =>
        if (!(sEq c389_.gName m390_)) = true then
          some (.ret (-1))
        else
          (at' d383_ b386_).bind fun c391_ =>
          if (c391_.gNum != (wr.i64 ((wr.i64 (b385_ + 1)) + 1))) = true then
            some (.ret (-1))
          else
            (at' d383_ b386_).bind fun c392_ =>
            if (c392_.gTo != (wr.i64 ((wr.i64 ((wr.i64 (b385_ + 1)) + 1)) + 1))) = true then
              some (.ret (-1))
            else
              (at' d383_ b386_).bind fun c393_ =>
              (plaws_heldIntS k c393_.gKids (wr.i64 ((wr.i64 ((wr.i64 ((wr.i64 (b385_ + 1)) + 1)) + 1)) + 1))).bind fun b394_ =>
              if (decide (b394_ < 0)) = true then
                some (.ret (-1))
              else
                plaws_heldCellS_L1 k d383_ m b394_ (wr.i64 (b386_ + 1))
    else
      some (.done b385_)
/-- laws.heldCellS -/
def plaws_heldCellS (k : Nat) (d383_ : List GCell) (b384_ : Int) : Option Int :=
  (plaws_heldCellS_L1 k d383_ k b384_ 0).bind fun out1 => match out1 with
  | .ret r => some r
  | .done b387_ =>
    some b387_
theorem claws_heldCellS {k : Nat} {d383_ : List GCell} {b384_ : Int} {r : Int} (h : plaws_heldCellS k d383_ b384_ = some r) : FnO Try.prog 93 [.v (.sl (List.map GCell.c d383_)) [], .v (.int .i64 b384_) []] (.v (.int .i64 r) []) [] := by
  refine FnO.of Try.func93 (rfl : Try.f93.body = some _) (Nat.le_of_ble_eq_true (by kernel_rfl)) (Nat.le_of_ble_eq_true (by kernel_rfl)) ?_
  intro w0 X0 Fin pv0 pb
  unfold plaws_heldCellS at h
  refine Wc.seq ?_
  refine Wc.region [] [] [0, 1] [] [] ⟨[(0, (.v (.sl (List.map GCell.c d383_)), [])), (1, (.v (.int .i64 b384_), []))], [], []⟩ _ (by kernel_rfl) .nil ?_
  refine Wc.seq ?_
  refine Wc.seq ?_
  refine Wc.region [] [] [0, 1, 5] [] [] ⟨[(0, (.v (.sl (List.map GCell.c d383_)), [])), (1, (.v (.int .i64 b384_), [])), (5, (.v (.int .i64 0), []))], [], []⟩ _ (by kernel_rfl) .nil ?_
  obtain ⟨out1, h417, h⟩ := obind h
  refine Wc.lastJ (fun st => ∃ (b387_ : Int), out1 = .done b387_ ∧ st = ⟨[(1, (.v (.int .i64 b387_), []))], [], []⟩) ?_ ?_
  · refine Wc.block ?_
    refine Wc.loop (fun m st => ∃ (b385_ : Int) (b386_ : Int), st = ⟨[(0, (.v (.sl (List.map GCell.c d383_)), [])), (1, (.v (.int .i64 b385_), [])), (5, (.v (.int .i64 b386_), []))], [], []⟩ ∧ plaws_heldCellS_L1 k d383_ m b385_ b386_ = some out1) ?_ k ⟨_, _, rfl, h417⟩
    rintro m st ⟨b385_, b386_, rfl, h417⟩
    cases m with
    | zero => exact (onone h417).elim
    | succ m =>
      refine Wc.seq ?_
      refine Wc.seq ?_
      refine Wc.region [{}, {}, { v := some (.int .i64 (d383_.length : Int)) }] [] [0, 1, 5, 9] [] [] ⟨[(0, (.v (.sl (List.map GCell.c d383_)), [])), (1, (.v (.int .i64 b385_), [])), (5, (.v (.int .i64 b386_), [])), (9, (.v (.bool (decide (b386_ < (d383_.length : Int)))), []))], [], []⟩ _ (by kernel_rfl) (.cons (len_obl GCell.c d383_) .nil) ?_
      rcases oif h417 with ⟨h418, h417⟩ | ⟨h418, h417⟩
      · refine Wc.condT h418 (by kernel_rfl) ?_
        refine Wc.fix (st' := ⟨[(0, (.v (.sl (List.map GCell.c d383_)), [])), (1, (.v (.int .i64 b385_), [])), (5, (.v (.int .i64 b386_), []))], [], []⟩) [] [0, 1, 5] [] [] (by kernel_rfl) ?_
        refine Wc.skip ?_
        refine Wc.seq ?_
        refine Wc.block ?_
        refine Wc.seq ?_
        refine Wc.seq ?_
        obtain ⟨c388_, h419, h417⟩ := obind h417
        refine Wc.region [{}, {}, { v := some (.vptr [.int .i64 c388_.gKind, .str c388_.gName, .int .i64 c388_.gNum, .int .i64 c388_.gTo, .sl (List.map cI.i64 c388_.gKids)]) }] [] [0, 1, 5, 18] [] [] ⟨[(0, (.v (.sl (List.map GCell.c d383_)), [])), (1, (.v (.int .i64 b385_), [])), (5, (.v (.int .i64 b386_), [])), (18, (.v (.bool (c388_.gKind != b385_)), []))], [], []⟩ _ (by kernel_rfl) (.cons (at_obl (c := GCell.c) (GCell.c_eq c388_) GCell.c_len h419) (.cons (len_ok 1 [.int .i64 c388_.gKind, .str c388_.gName, .int .i64 c388_.gNum, .int .i64 c388_.gTo, .sl (List.map cI.i64 c388_.gKids)]) .nil)) ?_
        rcases oif h417 with ⟨h420, h417⟩ | ⟨h420, h417⟩
        · refine Wc.condT h420 (by kernel_rfl) ?_
          refine Wc.seq ?_
          refine Wc.region [] [] [4] [] [] ⟨[(4, (.v (.int .i64 (-1)), []))], [], []⟩ _ (by kernel_rfl) .nil ?_
          refine Wc.ret ?_
          obtain rfl := Option.some.inj h417
          obtain rfl := Option.some.inj h
          exact ⟨.inl rfl, by kernel_rfl, by kernel_rfl⟩
        · refine Wc.condF h420 (by kernel_rfl) ?_
          refine Wc.fix (st' := ⟨[(0, (.v (.sl (List.map GCell.c d383_)), [])), (1, (.v (.int .i64 b385_), [])), (5, (.v (.int .i64 b386_), []))], [], []⟩) [] [0, 1, 5] [] [] (by kernel_rfl) ?_
          refine Wc.skip ?_
          refine Wc.seq ?_
          refine Wc.region [] [] [0, 1, 5] [] [] ⟨[(0, (.v (.sl (List.map GCell.c d383_)), [])), (1, (.v (.int .i64 (wr.i64 (b385_ + 1))), [])), (5, (.v (.int .i64 b386_), []))], [], []⟩ _ (by kernel_rfl) .nil ?_
          refine Wc.seq ?_
          refine Wc.seq ?_
          obtain ⟨c389_, h421, h417⟩ := obind h417
          obtain ⟨m390_, h422, h417⟩ := obind h417
          refine Wc.draw hmix [{}, {}, { v := some (.vptr [.int .i64 c389_.gKind, .str c389_.gName, .int .i64 c389_.gNum, .int .i64 c389_.gTo, .sl (List.map cI.i64 c389_.gKids)]) }, {}, {}, {}, { r := some (.v (.str m390_) []) }] [] [0, 1, 5, 28] [] [] ⟨[(0, (.v (.sl (List.map GCell.c d383_)), [])), (1, (.v (.int .i64 (wr.i64 (b385_ + 1))), [])), (5, (.v (.int .i64 b386_), [])), (28, (.v (.bool (!(sEq c389_.gName m390_))), []))], [], []⟩ _ (by kernel_rfl) (fun X => by kernel_rfl) (.cons (at_obl (c := GCell.c) (GCell.c_eq c389_) GCell.c_len h421) (.cons (len_ok 1 [.str c389_.gName, .int .i64 c389_.gNum, .int .i64 c389_.gTo, .sl (List.map cI.i64 c389_.gKids)]) (.cons (claws_markText h422) .nil))) ?_
          rcases oif h417 with ⟨h423, h417⟩ | ⟨h423, h417⟩
          · refine Wc.condT h423 (by kernel_rfl) ?_
            refine Wc.seq ?_
            refine Wc.region [] [] [4] [] [] ⟨[(4, (.v (.int .i64 (-1)), []))], [], []⟩ _ (by kernel_rfl) .nil ?_
            refine Wc.ret ?_
            obtain rfl := Option.some.inj h417
            obtain rfl := Option.some.inj h
            exact ⟨.inl rfl, by kernel_rfl, by kernel_rfl⟩
          · refine Wc.condF h423 (by kernel_rfl) ?_
            refine Wc.fix (st' := ⟨[(0, (.v (.sl (List.map GCell.c d383_)), [])), (1, (.v (.int .i64 (wr.i64 (b385_ + 1))), [])), (5, (.v (.int .i64 b386_), []))], [], []⟩) [] [0, 1, 5] [] [] (by kernel_rfl) ?_
            refine Wc.skip ?_
            refine Wc.seq ?_
            refine Wc.region [] [] [0, 1, 5] [] [] ⟨[(0, (.v (.sl (List.map GCell.c d383_)), [])), (1, (.v (.int .i64 (wr.i64 ((wr.i64 (b385_ + 1)) + 1))), [])), (5, (.v (.int .i64 b386_), []))], [], []⟩ _ (by kernel_rfl) .nil ?_
            refine Wc.seq ?_
            refine Wc.seq ?_
            obtain ⟨c391_, h424, h417⟩ := obind h417
            refine Wc.region [{}, {}, { v := some (.vptr [.int .i64 c391_.gKind, .str c391_.gName, .int .i64 c391_.gNum, .int .i64 c391_.gTo, .sl (List.map cI.i64 c391_.gKids)]) }] [] [0, 1, 5, 37] [] [] ⟨[(0, (.v (.sl (List.map GCell.c d383_)), [])), (1, (.v (.int .i64 (wr.i64 ((wr.i64 (b385_ + 1)) + 1))), [])), (5, (.v (.int .i64 b386_), [])), (37, (.v (.bool (c391_.gNum != (wr.i64 ((wr.i64 (b385_ + 1)) + 1)))), []))], [], []⟩ _ (by kernel_rfl) (.cons (at_obl (c := GCell.c) (GCell.c_eq c391_) GCell.c_len h424) (.cons (len_ok 1 [.int .i64 c391_.gNum, .int .i64 c391_.gTo, .sl (List.map cI.i64 c391_.gKids)]) .nil)) ?_
            rcases oif h417 with ⟨h425, h417⟩ | ⟨h425, h417⟩
            · refine Wc.condT h425 (by kernel_rfl) ?_
              refine Wc.seq ?_
              refine Wc.region [] [] [4] [] [] ⟨[(4, (.v (.int .i64 (-1)), []))], [], []⟩ _ (by kernel_rfl) .nil ?_
              refine Wc.ret ?_
              obtain rfl := Option.some.inj h417
              obtain rfl := Option.some.inj h
              exact ⟨.inl rfl, by kernel_rfl, by kernel_rfl⟩
            · refine Wc.condF h425 (by kernel_rfl) ?_
              refine Wc.fix (st' := ⟨[(0, (.v (.sl (List.map GCell.c d383_)), [])), (1, (.v (.int .i64 (wr.i64 ((wr.i64 (b385_ + 1)) + 1))), [])), (5, (.v (.int .i64 b386_), []))], [], []⟩) [] [0, 1, 5] [] [] (by kernel_rfl) ?_
              refine Wc.skip ?_
              refine Wc.seq ?_
              refine Wc.region [] [] [0, 1, 5] [] [] ⟨[(0, (.v (.sl (List.map GCell.c d383_)), [])), (1, (.v (.int .i64 (wr.i64 ((wr.i64 ((wr.i64 (b385_ + 1)) + 1)) + 1))), [])), (5, (.v (.int .i64 b386_), []))], [], []⟩ _ (by kernel_rfl) .nil ?_
              refine Wc.seq ?_
              refine Wc.seq ?_
              obtain ⟨c392_, h426, h417⟩ := obind h417
              refine Wc.region [{}, {}, { v := some (.vptr [.int .i64 c392_.gKind, .str c392_.gName, .int .i64 c392_.gNum, .int .i64 c392_.gTo, .sl (List.map cI.i64 c392_.gKids)]) }] [] [0, 1, 5, 46] [] [] ⟨[(0, (.v (.sl (List.map GCell.c d383_)), [])), (1, (.v (.int .i64 (wr.i64 ((wr.i64 ((wr.i64 (b385_ + 1)) + 1)) + 1))), [])), (5, (.v (.int .i64 b386_), [])), (46, (.v (.bool (c392_.gTo != (wr.i64 ((wr.i64 ((wr.i64 (b385_ + 1)) + 1)) + 1)))), []))], [], []⟩ _ (by kernel_rfl) (.cons (at_obl (c := GCell.c) (GCell.c_eq c392_) GCell.c_len h426) (.cons (len_ok 1 [.int .i64 c392_.gTo, .sl (List.map cI.i64 c392_.gKids)]) .nil)) ?_
              rcases oif h417 with ⟨h427, h417⟩ | ⟨h427, h417⟩
              · refine Wc.condT h427 (by kernel_rfl) ?_
                refine Wc.seq ?_
                refine Wc.region [] [] [4] [] [] ⟨[(4, (.v (.int .i64 (-1)), []))], [], []⟩ _ (by kernel_rfl) .nil ?_
                refine Wc.ret ?_
                obtain rfl := Option.some.inj h417
                obtain rfl := Option.some.inj h
                exact ⟨.inl rfl, by kernel_rfl, by kernel_rfl⟩
              · refine Wc.condF h427 (by kernel_rfl) ?_
                refine Wc.fix (st' := ⟨[(0, (.v (.sl (List.map GCell.c d383_)), [])), (1, (.v (.int .i64 (wr.i64 ((wr.i64 ((wr.i64 (b385_ + 1)) + 1)) + 1))), [])), (5, (.v (.int .i64 b386_), []))], [], []⟩) [] [0, 1, 5] [] [] (by kernel_rfl) ?_
                refine Wc.skip ?_
                refine Wc.seq ?_
                refine Wc.region [] [] [0, 1, 5] [] [] ⟨[(0, (.v (.sl (List.map GCell.c d383_)), [])), (1, (.v (.int .i64 (wr.i64 ((wr.i64 ((wr.i64 ((wr.i64 (b385_ + 1)) + 1)) + 1)) + 1))), [])), (5, (.v (.int .i64 b386_), []))], [], []⟩ _ (by kernel_rfl) .nil ?_
                refine Wc.seq ?_
                obtain ⟨c393_, h428, h417⟩ := obind h417
                obtain ⟨b394_, h429, h417⟩ := obind h417
                refine Wc.region [{}, {}, { v := some (.vptr [.int .i64 c393_.gKind, .str c393_.gName, .int .i64 c393_.gNum, .int .i64 c393_.gTo, .sl (List.map cI.i64 c393_.gKids)]) }, {}, {}, {}, { r := some (.v (.int .i64 b394_) []) }] [] [0, 1, 5] [] [] ⟨[(0, (.v (.sl (List.map GCell.c d383_)), [])), (1, (.v (.int .i64 b394_), [])), (5, (.v (.int .i64 b386_), []))], [], []⟩ _ (by kernel_rfl) (.cons (at_obl (c := GCell.c) (GCell.c_eq c393_) GCell.c_len h428) (.cons (len_ok 1 [.sl (List.map cI.i64 c393_.gKids)]) (.cons (claws_heldIntS h429) .nil))) ?_
                refine Wc.seq ?_
                refine Wc.region [] [] [0, 1, 5, 57] [] [] ⟨[(0, (.v (.sl (List.map GCell.c d383_)), [])), (1, (.v (.int .i64 b394_), [])), (5, (.v (.int .i64 b386_), [])), (57, (.v (.bool (decide (b394_ < 0))), []))], [], []⟩ _ (by kernel_rfl) .nil ?_
                rcases oif h417 with ⟨h430, h417⟩ | ⟨h430, h417⟩
                · refine Wc.condT h430 (by kernel_rfl) ?_
                  refine Wc.seq ?_
                  refine Wc.region [] [] [4] [] [] ⟨[(4, (.v (.int .i64 (-1)), []))], [], []⟩ _ (by kernel_rfl) .nil ?_
                  refine Wc.ret ?_
                  obtain rfl := Option.some.inj h417
                  obtain rfl := Option.some.inj h
                  exact ⟨.inl rfl, by kernel_rfl, by kernel_rfl⟩
                · refine Wc.condF h430 (by kernel_rfl) ?_
                  refine Wc.fix (st' := ⟨[(0, (.v (.sl (List.map GCell.c d383_)), [])), (1, (.v (.int .i64 b394_), [])), (5, (.v (.int .i64 b386_), []))], [], []⟩) [] [0, 1, 5] [] [] (by kernel_rfl) ?_
                  refine Wc.skip ?_
                  refine Wc.region [] [] [0, 1, 5] [] [] ⟨[(0, (.v (.sl (List.map GCell.c d383_)), [])), (1, (.v (.int .i64 b394_), [])), (5, (.v (.int .i64 (wr.i64 (b386_ + 1))), []))], [], []⟩ _ (by kernel_rfl) .nil ?_
                  exact ⟨_, Nat.lt_succ_self _, _, _, rfl, h417⟩
      · refine Wc.condF h418 (by kernel_rfl) ?_
        refine Wc.fix (st' := ⟨[(1, (.v (.int .i64 b385_), []))], [], []⟩) [] [1] [] [] (by kernel_rfl) ?_
        refine Wc.exit ?_
        obtain rfl := Option.some.inj h417
        exact ⟨_, rfl, rfl⟩
  · rintro st ⟨b387_, rfl, rfl⟩
    refine Wc.seq ?_
    refine Wc.region [] [] [4] [] [] ⟨[(4, (.v (.int .i64 b387_), []))], [], []⟩ _ (by kernel_rfl) .nil ?_
    refine Wc.ret ?_
    obtain rfl := Option.some.inj h
    exact ⟨.inl rfl, by kernel_rfl, by kernel_rfl⟩

/-- laws.heldHeap -/
def plaws_heldHeap (k : Nat) (e395_ : GHeap) (b396_ : Int) : Option Int :=
  (plaws_heldCellS k e395_.gCells b396_).bind fun b397_ =>
  if (decide (b397_ < 0)) = true then
    some (-1)
  else
    (plaws_heldIntS k e395_.gTrail b397_).bind fun b398_ =>
    if (decide (b398_ < 0)) = true then
      some (-1)
    else
      some b398_
theorem claws_heldHeap {k : Nat} {e395_ : GHeap} {b396_ : Int} {r : Int} (h : plaws_heldHeap k e395_ b396_ = some r) : FnO Try.prog 38 [.v (.agg [.sl (List.map GCell.c e395_.gCells), .sl (List.map cI.i64 e395_.gTrail)]) [], .v (.int .i64 b396_) []] (.v (.int .i64 r) []) [] := by
  refine FnO.of Try.func38 (rfl : Try.f38.body = some _) (Nat.le_of_ble_eq_true (by kernel_rfl)) (Nat.le_of_ble_eq_true (by kernel_rfl)) ?_
  intro w0 X0 Fin pv0 pb
  unfold plaws_heldHeap at h
  refine Wc.seq ?_
  refine Wc.region [] [] [1, 2] [2] [] ⟨[(1, (.v (.int .i64 b396_), [])), (2, (.ptr 2 0, []))], [(2, .cells [.sl (List.map GCell.c e395_.gCells), .sl (List.map cI.i64 e395_.gTrail)] [])], []⟩ _ (by kernel_rfl) .nil ?_
  refine Wc.seq ?_
  obtain ⟨b397_, h431, h⟩ := obind h
  refine Wc.region [{}, {}, {}, { r := some (.v (.int .i64 b397_) []) }] [] [1, 2] [2] [] ⟨[(1, (.v (.int .i64 b397_), [])), (2, (.ptr 2 0, []))], [(2, .cells [.sl (List.map GCell.c e395_.gCells), .sl (List.map cI.i64 e395_.gTrail)] [])], []⟩ _ (by kernel_rfl) (.cons (claws_heldCellS h431) .nil) ?_
  refine Wc.seq ?_
  refine Wc.seq ?_
  refine Wc.region [] [] [1, 2, 10] [2] [] ⟨[(1, (.v (.int .i64 b397_), [])), (2, (.ptr 2 0, [])), (10, (.v (.bool (decide (b397_ < 0))), []))], [(2, .cells [.sl (List.map GCell.c e395_.gCells), .sl (List.map cI.i64 e395_.gTrail)] [])], []⟩ _ (by kernel_rfl) .nil ?_
  rcases oif h with ⟨h432, h⟩ | ⟨h432, h⟩
  · refine Wc.condT h432 (by kernel_rfl) ?_
    refine Wc.seq ?_
    refine Wc.region [] [] [4] [] [] ⟨[(4, (.v (.int .i64 (-1)), []))], [], []⟩ _ (by kernel_rfl) .nil ?_
    refine Wc.ret ?_
    obtain rfl := Option.some.inj h
    exact ⟨.inl rfl, by kernel_rfl, by kernel_rfl⟩
  · refine Wc.condF h432 (by kernel_rfl) ?_
    refine Wc.fix (st' := ⟨[(1, (.v (.int .i64 b397_), [])), (2, (.ptr 2 0, []))], [(2, .cells [.sl (List.map GCell.c e395_.gCells), .sl (List.map cI.i64 e395_.gTrail)] [])], []⟩) [] [1, 2] [2] [] (by kernel_rfl) ?_
    refine Wc.skip ?_
    refine Wc.seq ?_
    obtain ⟨b398_, h433, h⟩ := obind h
    refine Wc.region [{}, {}, {}, { r := some (.v (.int .i64 b398_) []) }] [] [1] [] [] ⟨[(1, (.v (.int .i64 b398_), []))], [], []⟩ _ (by kernel_rfl) (.cons (claws_heldIntS h433) .nil) ?_
    refine Wc.seq ?_
    refine Wc.seq ?_
    refine Wc.region [] [] [1, 16] [] [] ⟨[(1, (.v (.int .i64 b398_), [])), (16, (.v (.bool (decide (b398_ < 0))), []))], [], []⟩ _ (by kernel_rfl) .nil ?_
    rcases oif h with ⟨h434, h⟩ | ⟨h434, h⟩
    · refine Wc.condT h434 (by kernel_rfl) ?_
      refine Wc.seq ?_
      refine Wc.region [] [] [4] [] [] ⟨[(4, (.v (.int .i64 (-1)), []))], [], []⟩ _ (by kernel_rfl) .nil ?_
      refine Wc.ret ?_
      obtain rfl := Option.some.inj h
      exact ⟨.inl rfl, by kernel_rfl, by kernel_rfl⟩
    · refine Wc.condF h434 (by kernel_rfl) ?_
      refine Wc.fix (st' := ⟨[(1, (.v (.int .i64 b398_), []))], [], []⟩) [] [1] [] [] (by kernel_rfl) ?_
      refine Wc.skip ?_
      refine Wc.seq ?_
      refine Wc.region [] [] [4] [] [] ⟨[(4, (.v (.int .i64 b398_), []))], [], []⟩ _ (by kernel_rfl) .nil ?_
      refine Wc.ret ?_
      obtain rfl := Option.some.inj h
      exact ⟨.inl rfl, by kernel_rfl, by kernel_rfl⟩

def plaws_toIntS_d_L1 (k : Nat) (a406_ : List Int) : Nat → (List Int) → Int → Option (Out (List Int) (List Int))
  | 0, _, _ => none
  | m + 1, a407_, b408_ =>
    if (decide (b408_ < (a406_.length : Int))) = true then
      (at' a406_ b408_).bind fun b410_ =>
      (at' a407_ b408_).bind fun b411_ =>
      plaws_toIntS_d_L1 k a406_ m (a407_.set ((b408_).toNat) b410_) (wr.i64 (b408_ + 1))
    else
      some (.done a407_)
/-- laws.toIntS -/
def plaws_toIntS_d (k : Nat) (a406_ : List Int) : Option (List Int) :=
  if 0 ≤ (a406_.length : Int) ∧ (a406_.length : Int) ≤ 1073741824 then
    (plaws_toIntS_d_L1 k a406_ k (List.replicate ((a406_.length : Int)).toNat 0) 0).bind fun out1 => match out1 with
    | .ret r => some r
    | .done a409_ =>
      some a409_
  else none
theorem claws_toIntS_d {k : Nat} {a406_ : List Int} {r : (List Int)} (h : plaws_toIntS_d k a406_ = some r) : FnO Try.prog 68 [.v (.sl (List.map cI.i64 a406_)) []] (.v (.slx) [(0, .ex 3 true (List.map cI.i64 r))]) [] := by
  refine FnO.of Try.func68 (rfl : Try.f68.body = some _) (Nat.le_of_ble_eq_true (by kernel_rfl)) (Nat.le_of_ble_eq_true (by kernel_rfl)) ?_
  intro w0 X0 Fin pv0 pb
  unfold plaws_toIntS_d at h
  refine Wc.seq ?_
  refine Wc.region [] [] [0] [] [] ⟨[(0, (.v (.sl (List.map cI.i64 a406_)), []))], [], []⟩ _ (by kernel_rfl) .nil ?_
  refine Wc.seq ?_
  obtain ⟨h440, h⟩ := oguard h
  refine Wc.region [{}, { v := some (.int .i64 (a406_.length : Int)) }, { c := some (List.map cI.i64 (List.replicate ((a406_.length : Int)).toNat 0)) }, { tk := [7] }] [] [0, 3] [] [] ⟨[(0, (.v (.sl (List.map cI.i64 a406_)), [])), (3, (.v (.slx), [(0, .ex 3 true (List.map cI.i64 (List.replicate ((a406_.length : Int)).toNat 0)))]))], [], []⟩ _ (by kernel_rfl) (.cons (len_obl cI.i64 a406_) (.cons (rep_re (c := cI.i64) (z := 0) rfl ((a406_.length : Int)).toNat) (.cons (ms_obl h440) .nil))) ?_
  refine Wc.seq ?_
  refine Wc.seq ?_
  refine Wc.region [] [] [0, 3, 4] [] [] ⟨[(0, (.v (.sl (List.map cI.i64 a406_)), [])), (3, (.v (.slx), [(0, .ex 3 true (List.map cI.i64 (List.replicate ((a406_.length : Int)).toNat 0)))])), (4, (.v (.int .i64 0), []))], [], []⟩ _ (by kernel_rfl) .nil ?_
  obtain ⟨out1, h441, h⟩ := obind h
  refine Wc.lastJ (fun st => ∃ (a409_ : List Int), out1 = .done a409_ ∧ st = ⟨[(3, (.v (.slx), [(0, .ex 3 true (List.map cI.i64 a409_))]))], [], []⟩) ?_ ?_
  · refine Wc.block ?_
    refine Wc.loop (fun m st => ∃ (a407_ : List Int) (b408_ : Int), st = ⟨[(0, (.v (.sl (List.map cI.i64 a406_)), [])), (3, (.v (.slx), [(0, .ex 3 true (List.map cI.i64 a407_))])), (4, (.v (.int .i64 b408_), []))], [], []⟩ ∧ plaws_toIntS_d_L1 k a406_ m a407_ b408_ = some out1) ?_ k ⟨_, _, rfl, h441⟩
    rintro m st ⟨a407_, b408_, rfl, h441⟩
    cases m with
    | zero => exact (onone h441).elim
    | succ m =>
      refine Wc.seq ?_
      refine Wc.seq ?_
      refine Wc.region [{}, {}, { v := some (.int .i64 (a406_.length : Int)) }] [] [0, 3, 4, 11] [] [] ⟨[(0, (.v (.sl (List.map cI.i64 a406_)), [])), (3, (.v (.slx), [(0, .ex 3 true (List.map cI.i64 a407_))])), (4, (.v (.int .i64 b408_), [])), (11, (.v (.bool (decide (b408_ < (a406_.length : Int)))), []))], [], []⟩ _ (by kernel_rfl) (.cons (len_obl cI.i64 a406_) .nil) ?_
      rcases oif h441 with ⟨h442, h441⟩ | ⟨h442, h441⟩
      · refine Wc.condT h442 (by kernel_rfl) ?_
        refine Wc.fix (st' := ⟨[(0, (.v (.sl (List.map cI.i64 a406_)), [])), (3, (.v (.slx), [(0, .ex 3 true (List.map cI.i64 a407_))])), (4, (.v (.int .i64 b408_), []))], [], []⟩) [] [0, 3, 4] [] [] (by kernel_rfl) ?_
        refine Wc.skip ?_
        refine Wc.seq ?_
        refine Wc.block ?_
        obtain ⟨b410_, h443, h441⟩ := obind h441
        obtain ⟨b411_, h444, h441⟩ := obind h441
        refine Wc.region [{}, {}, {}, {}, { v := some (.vptr [.int .i64 b410_]) }, {}, {}, { c := some (List.map cI.i64 (a407_.set ((b408_).toNat) b410_)) }] [] [0, 3, 4] [] [] ⟨[(0, (.v (.sl (List.map cI.i64 a406_)), [])), (3, (.v (.slx), [(0, .ex 3 true (List.map cI.i64 (a407_.set ((b408_).toNat) b410_)))])), (4, (.v (.int .i64 b408_), []))], [], []⟩ _ (by kernel_rfl) (.cons (at_obl (c := cI.i64) rfl cI.i64_len h443) (.cons (len_ok 1 [.int .i64 b410_]) (.cons (ix_obl (c := cI.i64) cI.i64_len h444) (.cons (mod_obl (off := 0) (new := [.int .i64 b410_]) (c := cI.i64) rfl rfl (at'_spec h444).2 rfl) (.cons (st_obl (sz := 1) (off := 0) (s := 1) (c := cI.i64) rfl (at'_spec h444).2 rfl (Nat.le_of_ble_eq_true rfl)) .nil))))) ?_
        refine Wc.region [] [] [0, 3, 4] [] [] ⟨[(0, (.v (.sl (List.map cI.i64 a406_)), [])), (3, (.v (.slx), [(0, .ex 3 true (List.map cI.i64 (a407_.set ((b408_).toNat) b410_)))])), (4, (.v (.int .i64 (wr.i64 (b408_ + 1))), []))], [], []⟩ _ (by kernel_rfl) .nil ?_
        exact ⟨_, Nat.lt_succ_self _, _, _, rfl, h441⟩
      · refine Wc.condF h442 (by kernel_rfl) ?_
        refine Wc.fix (st' := ⟨[(3, (.v (.slx), [(0, .ex 3 true (List.map cI.i64 a407_))]))], [], []⟩) [] [3] [] [] (by kernel_rfl) ?_
        refine Wc.exit ?_
        obtain rfl := Option.some.inj h441
        exact ⟨_, rfl, rfl⟩
  · rintro st ⟨a409_, rfl, rfl⟩
    refine Wc.seq ?_
    refine Wc.region [{ tk := [3] }, { tk := [21] }] [] [2] [] [] ⟨[(2, (.v (.slx), [(0, .ex 3 true (List.map cI.i64 a409_))]))], [], []⟩ _ (by kernel_rfl) .nil ?_
    refine Wc.ret ?_
    obtain rfl := Option.some.inj h
    exact ⟨.inl rfl, by kernel_rfl, by kernel_rfl⟩

/-- laws.toCell -/
def plaws_toCell_d (k : Nat) (c404_ : GCell) : Option GCell :=
  (plaws_toIntS_d k c404_.gKids).bind fun f405_ =>
  some (GCell.mk c404_.gKind c404_.gName c404_.gNum c404_.gTo f405_)
theorem claws_toCell_d {k : Nat} {c404_ : GCell} {r : GCell} (h : plaws_toCell_d k c404_ = some r) : FnO Try.prog 113 [.v (.agg [.int .i64 c404_.gKind, .str c404_.gName, .int .i64 c404_.gNum, .int .i64 c404_.gTo, .sl (List.map cI.i64 c404_.gKids)]) []] (.v (.agg [.int .i64 r.gKind, .str r.gName, .int .i64 r.gNum, .int .i64 r.gTo, .slx]) [(4, .ex 3 true (List.map cI.i64 r.gKids))]) [] := by
  refine FnO.of Try.func113 (rfl : Try.f113.body = some _) (Nat.le_of_ble_eq_true (by kernel_rfl)) (Nat.le_of_ble_eq_true (by kernel_rfl)) ?_
  intro w0 X0 Fin pv0 pb
  unfold plaws_toCell_d at h
  refine Wc.seq ?_
  refine Wc.region [] [] [1, 2] [1, 2] [] ⟨[(1, (.ptr 1 0, [])), (2, (.ptr 2 0, []))], [(1, .cells [.int .i64 c404_.gKind, .str c404_.gName, .int .i64 c404_.gNum, .int .i64 c404_.gTo, .sl (List.map cI.i64 c404_.gKids)] []), (2, .cells [.int .i64 0, .str (bs []), .int .i64 0, .int .i64 0, .sl (List.map cI.i64 [])] [(4, .app 3)])], []⟩ _ (by kernel_rfl) .nil ?_
  refine Wc.seq ?_
  refine Wc.region [] [] [1, 2, 3] [1, 2, 3] [] ⟨[(1, (.ptr 1 0, [])), (2, (.ptr 2 0, [])), (3, (.ptr 3 0, []))], [(1, .cells [.int .i64 c404_.gKind, .str c404_.gName, .int .i64 c404_.gNum, .int .i64 c404_.gTo, .sl (List.map cI.i64 c404_.gKids)] []), (2, .cells [.int .i64 0, .str (bs []), .int .i64 0, .int .i64 0, .sl (List.map cI.i64 [])] [(4, .app 3)]), (3, .cells [.int .i64 0, .str (bs []), .int .i64 0, .int .i64 0, .sl (List.map cI.i64 [])] [(4, .app 3)])], []⟩ _ (by kernel_rfl) .nil ?_
  refine Wc.seq ?_
  refine Wc.region [] [] [1, 2, 3] [1, 2, 3] [] ⟨[(1, (.ptr 1 0, [])), (2, (.ptr 2 0, [])), (3, (.ptr 3 0, []))], [(1, .cells [.int .i64 c404_.gKind, .str c404_.gName, .int .i64 c404_.gNum, .int .i64 c404_.gTo, .sl (List.map cI.i64 c404_.gKids)] []), (2, .cells [.int .i64 0, .str (bs []), .int .i64 0, .int .i64 0, .sl (List.map cI.i64 [])] [(4, .app 3)]), (3, .cells [.int .i64 c404_.gKind, .str (bs []), .int .i64 0, .int .i64 0, .sl (List.map cI.i64 [])] [(4, .app 3)])], []⟩ _ (by kernel_rfl) .nil ?_
  refine Wc.seq ?_
  refine Wc.region [] [] [1, 2, 3] [1, 2, 3] [] ⟨[(1, (.ptr 1 0, [])), (2, (.ptr 2 0, [])), (3, (.ptr 3 0, []))], [(1, .cells [.int .i64 c404_.gKind, .str c404_.gName, .int .i64 c404_.gNum, .int .i64 c404_.gTo, .sl (List.map cI.i64 c404_.gKids)] []), (2, .cells [.int .i64 0, .str (bs []), .int .i64 0, .int .i64 0, .sl (List.map cI.i64 [])] [(4, .app 3)]), (3, .cells [.int .i64 c404_.gKind, .str c404_.gName, .int .i64 0, .int .i64 0, .sl (List.map cI.i64 [])] [(4, .app 3)])], []⟩ _ (by kernel_rfl) .nil ?_
  refine Wc.seq ?_
  refine Wc.region [] [] [1, 2, 3] [1, 2, 3] [] ⟨[(1, (.ptr 1 0, [])), (2, (.ptr 2 0, [])), (3, (.ptr 3 0, []))], [(1, .cells [.int .i64 c404_.gKind, .str c404_.gName, .int .i64 c404_.gNum, .int .i64 c404_.gTo, .sl (List.map cI.i64 c404_.gKids)] []), (2, .cells [.int .i64 0, .str (bs []), .int .i64 0, .int .i64 0, .sl (List.map cI.i64 [])] [(4, .app 3)]), (3, .cells [.int .i64 c404_.gKind, .str c404_.gName, .int .i64 c404_.gNum, .int .i64 0, .sl (List.map cI.i64 [])] [(4, .app 3)])], []⟩ _ (by kernel_rfl) .nil ?_
  refine Wc.seq ?_
  refine Wc.region [] [] [1, 2, 3] [1, 2, 3] [] ⟨[(1, (.ptr 1 0, [])), (2, (.ptr 2 0, [])), (3, (.ptr 3 0, []))], [(1, .cells [.int .i64 c404_.gKind, .str c404_.gName, .int .i64 c404_.gNum, .int .i64 c404_.gTo, .sl (List.map cI.i64 c404_.gKids)] []), (2, .cells [.int .i64 0, .str (bs []), .int .i64 0, .int .i64 0, .sl (List.map cI.i64 [])] [(4, .app 3)]), (3, .cells [.int .i64 c404_.gKind, .str c404_.gName, .int .i64 c404_.gNum, .int .i64 c404_.gTo, .sl (List.map cI.i64 [])] [(4, .app 3)])], []⟩ _ (by kernel_rfl) .nil ?_
  refine Wc.seq ?_
  obtain ⟨f405_, h439, h⟩ := obind h
  refine Wc.region [{}, {}, { r := some (.v (.slx) [(0, .ex 3 true (List.map cI.i64 f405_))]) }, {}, { tk := [18] }] [] [2, 3] [2, 3] [] ⟨[(2, (.ptr 2 0, [])), (3, (.ptr 3 0, []))], [(2, .cells [.int .i64 0, .str (bs []), .int .i64 0, .int .i64 0, .sl (List.map cI.i64 [])] [(4, .app 3)]), (3, .cells [.int .i64 c404_.gKind, .str c404_.gName, .int .i64 c404_.gNum, .int .i64 c404_.gTo, .slx] [(4, .ex 3 true (List.map cI.i64 f405_))])], []⟩ _ (by kernel_rfl) (.cons (claws_toIntS_d h439) .nil) ?_
  refine Wc.seq ?_
  refine Wc.region [{ md := 1 }, { tk := [20] }] [] [2] [2] [] ⟨[(2, (.ptr 2 0, []))], [(2, .cells [.int .i64 c404_.gKind, .str c404_.gName, .int .i64 c404_.gNum, .int .i64 c404_.gTo, .slx] [(4, .ex 3 true (List.map cI.i64 f405_))])], []⟩ _ (by kernel_rfl) .nil ?_
  refine Wc.ret ?_
  obtain rfl := Option.some.inj h
  exact ⟨.inl rfl, by kernel_rfl, by kernel_rfl⟩

def plaws_toCellS_d_L1 (k : Nat) (d407_ : List GCell) : Nat → (List GCell) → Int → Option (Out (List GCell) (List GCell))
  | 0, _, _ => none
  | m + 1, d408_, b409_ =>
    if (decide (b409_ < (d407_.length : Int))) = true then
      (at' d407_ b409_).bind fun c411_ =>
      (plaws_toCell_d k c411_).bind fun c412_ =>
      (at' d408_ b409_).bind fun c413_ =>
      plaws_toCellS_d_L1 k d407_ m (d408_.set ((b409_).toNat) c412_) (wr.i64 (b409_ + 1))
    else
      some (.done d408_)
/-- laws.toCellS -/
def plaws_toCellS_d (k : Nat) (d407_ : List GCell) : Option (List GCell) :=
  if 0 ≤ (d407_.length : Int) ∧ (d407_.length : Int) ≤ 1073741824 then
    (plaws_toCellS_d_L1 k d407_ k (List.replicate ((d407_.length : Int)).toNat (GCell.mk 0 (bs []) 0 0 [])) 0).bind fun out1 => match out1 with
    | .ret r => some r
    | .done d410_ =>
      some d410_
  else none
theorem claws_toCellS_d {k : Nat} {d407_ : List GCell} {r : (List GCell)} (h : plaws_toCellS_d k d407_ = some r) : FnO Try.prog 67 [.v (.sl (List.map GCell.c d407_)) []] (.v (.slx) [(0, .ex 139 true (List.map GCell.c r))]) [] := by
  refine FnO.of Try.func67 (rfl : Try.f67.body = some _) (Nat.le_of_ble_eq_true (by kernel_rfl)) (Nat.le_of_ble_eq_true (by kernel_rfl)) ?_
  intro w0 X0 Fin pv0 pb
  unfold plaws_toCellS_d at h
  refine Wc.seq ?_
  refine Wc.region [] [] [0] [] [] ⟨[(0, (.v (.sl (List.map GCell.c d407_)), []))], [], []⟩ _ (by kernel_rfl) .nil ?_
  refine Wc.seq ?_
  obtain ⟨h441, h⟩ := oguard h
  refine Wc.region [{}, { v := some (.int .i64 (d407_.length : Int)) }, { c := some (List.map GCell.c (List.replicate ((d407_.length : Int)).toNat (GCell.mk 0 (bs []) 0 0 []))) }, { tk := [7] }] [] [0, 3] [] [] ⟨[(0, (.v (.sl (List.map GCell.c d407_)), [])), (3, (.v (.slx), [(0, .ex 139 true (List.map GCell.c (List.replicate ((d407_.length : Int)).toNat (GCell.mk 0 (bs []) 0 0 []))))]))], [], []⟩ _ (by kernel_rfl) (.cons (len_obl GCell.c d407_) (.cons (rep_re (c := GCell.c) (z := (GCell.mk 0 (bs []) 0 0 [])) (GCell.c_eq (GCell.mk 0 (bs []) 0 0 [])) ((d407_.length : Int)).toNat) (.cons (ms_obl h441) .nil))) ?_
  refine Wc.seq ?_
  refine Wc.seq ?_
  refine Wc.region [] [] [0, 3, 4] [] [] ⟨[(0, (.v (.sl (List.map GCell.c d407_)), [])), (3, (.v (.slx), [(0, .ex 139 true (List.map GCell.c (List.replicate ((d407_.length : Int)).toNat (GCell.mk 0 (bs []) 0 0 []))))])), (4, (.v (.int .i64 0), []))], [], []⟩ _ (by kernel_rfl) .nil ?_
  obtain ⟨out1, h442, h⟩ := obind h
  refine Wc.lastJ (fun st => ∃ (d410_ : List GCell), out1 = .done d410_ ∧ st = ⟨[(3, (.v (.slx), [(0, .ex 139 true (List.map GCell.c d410_))]))], [], []⟩) ?_ ?_
  · refine Wc.block ?_
    refine Wc.loop (fun m st => ∃ (d408_ : List GCell) (b409_ : Int), st = ⟨[(0, (.v (.sl (List.map GCell.c d407_)), [])), (3, (.v (.slx), [(0, .ex 139 true (List.map GCell.c d408_))])), (4, (.v (.int .i64 b409_), []))], [], []⟩ ∧ plaws_toCellS_d_L1 k d407_ m d408_ b409_ = some out1) ?_ k ⟨_, _, rfl, h442⟩
    rintro m st ⟨d408_, b409_, rfl, h442⟩
    cases m with
    | zero => exact (onone h442).elim
    | succ m =>
      refine Wc.seq ?_
      refine Wc.seq ?_
      refine Wc.region [{}, {}, { v := some (.int .i64 (d407_.length : Int)) }] [] [0, 3, 4, 11] [] [] ⟨[(0, (.v (.sl (List.map GCell.c d407_)), [])), (3, (.v (.slx), [(0, .ex 139 true (List.map GCell.c d408_))])), (4, (.v (.int .i64 b409_), [])), (11, (.v (.bool (decide (b409_ < (d407_.length : Int)))), []))], [], []⟩ _ (by kernel_rfl) (.cons (len_obl GCell.c d407_) .nil) ?_
      rcases oif h442 with ⟨h443, h442⟩ | ⟨h443, h442⟩
      · refine Wc.condT h443 (by kernel_rfl) ?_
        refine Wc.fix (st' := ⟨[(0, (.v (.sl (List.map GCell.c d407_)), [])), (3, (.v (.slx), [(0, .ex 139 true (List.map GCell.c d408_))])), (4, (.v (.int .i64 b409_), []))], [], []⟩) [] [0, 3, 4] [] [] (by kernel_rfl) ?_
        refine Wc.skip ?_
        refine Wc.seq ?_
        refine Wc.block ?_
        obtain ⟨c411_, h444, h442⟩ := obind h442
        obtain ⟨c412_, h445, h442⟩ := obind h442
        obtain ⟨c413_, h446, h442⟩ := obind h442
        refine Wc.region [{}, {}, {}, {}, { v := some (.vptr [.int .i64 c411_.gKind, .str c411_.gName, .int .i64 c411_.gNum, .int .i64 c411_.gTo, .sl (List.map cI.i64 c411_.gKids)]) }, {}, { r := some (.v (.agg [.int .i64 c412_.gKind, .str c412_.gName, .int .i64 c412_.gNum, .int .i64 c412_.gTo, .slx]) [(4, .ex 3 true (List.map cI.i64 c412_.gKids))]) }, {}, { c := some (List.map GCell.c (d408_.set ((b409_).toNat) c412_)), tk := [20] }] [] [0, 3, 4] [] [] ⟨[(0, (.v (.sl (List.map GCell.c d407_)), [])), (3, (.v (.slx), [(0, .ex 139 true (List.map GCell.c (d408_.set ((b409_).toNat) c412_)))])), (4, (.v (.int .i64 b409_), []))], [], []⟩ _ (by kernel_rfl) (.cons (at_obl (c := GCell.c) (GCell.c_eq c411_) GCell.c_len h444) (.cons (len_ok 5 [.int .i64 c411_.gKind, .str c411_.gName, .int .i64 c411_.gNum, .int .i64 c411_.gTo, .sl (List.map cI.i64 c411_.gKids)]) (.cons (claws_toCell_d h445) (.cons (ix_obl (c := GCell.c) GCell.c_len h446) (.cons (mod_obl (off := 0) (new := [.int .i64 c412_.gKind, .str c412_.gName, .int .i64 c412_.gNum, .int .i64 c412_.gTo, .sl (List.map cI.i64 c412_.gKids)]) (c := GCell.c) (GCell.c_eq c413_) (GCell.c_eq c412_) (at'_spec h446).2 rfl) (.cons (st_obl (sz := 5) (off := 0) (s := 5) (c := GCell.c) (GCell.c_eq c413_) (at'_spec h446).2 rfl (Nat.le_of_ble_eq_true rfl)) .nil)))))) ?_
        refine Wc.region [] [] [0, 3, 4] [] [] ⟨[(0, (.v (.sl (List.map GCell.c d407_)), [])), (3, (.v (.slx), [(0, .ex 139 true (List.map GCell.c (d408_.set ((b409_).toNat) c412_)))])), (4, (.v (.int .i64 (wr.i64 (b409_ + 1))), []))], [], []⟩ _ (by kernel_rfl) .nil ?_
        exact ⟨_, Nat.lt_succ_self _, _, _, rfl, h442⟩
      · refine Wc.condF h443 (by kernel_rfl) ?_
        refine Wc.fix (st' := ⟨[(3, (.v (.slx), [(0, .ex 139 true (List.map GCell.c d408_))]))], [], []⟩) [] [3] [] [] (by kernel_rfl) ?_
        refine Wc.exit ?_
        obtain rfl := Option.some.inj h442
        exact ⟨_, rfl, rfl⟩
  · rintro st ⟨d410_, rfl, rfl⟩
    refine Wc.seq ?_
    refine Wc.region [{ tk := [3] }, { tk := [22] }] [] [2] [] [] ⟨[(2, (.v (.slx), [(0, .ex 139 true (List.map GCell.c d410_))]))], [], []⟩ _ (by kernel_rfl) .nil ?_
    refine Wc.ret ?_
    obtain rfl := Option.some.inj h
    exact ⟨.inl rfl, by kernel_rfl, by kernel_rfl⟩

/-- laws.toHeap -/
def plaws_toHeap_d (k : Nat) (e409_ : GHeap) : Option GHeap :=
  (plaws_toCellS_d k e409_.gCells).bind fun g410_ =>
  (plaws_toIntS_d k e409_.gTrail).bind fun f411_ =>
  some (GHeap.mk g410_ f411_)
theorem claws_toHeap_d {k : Nat} {e409_ : GHeap} {r : GHeap} (h : plaws_toHeap_d k e409_ = some r) : FnO Try.prog 18 [.v (.agg [.sl (List.map GCell.c e409_.gCells), .sl (List.map cI.i64 e409_.gTrail)]) []] (.v (.agg [.slx, .slx]) [(0, .ex 139 true (List.map GCell.c r.gCells)), (1, .ex 3 true (List.map cI.i64 r.gTrail))]) [] := by
  refine FnO.of Try.func18 (rfl : Try.f18.body = some _) (Nat.le_of_ble_eq_true (by kernel_rfl)) (Nat.le_of_ble_eq_true (by kernel_rfl)) ?_
  intro w0 X0 Fin pv0 pb
  unfold plaws_toHeap_d at h
  refine Wc.seq ?_
  refine Wc.region [] [] [1, 2] [1, 2] [] ⟨[(1, (.ptr 1 0, [])), (2, (.ptr 2 0, []))], [(1, .cells [.sl (List.map GCell.c e409_.gCells), .sl (List.map cI.i64 e409_.gTrail)] []), (2, .cells [.sl (List.map GCell.c []), .sl (List.map cI.i64 [])] [(0, .app 139), (1, .app 3)])], []⟩ _ (by kernel_rfl) .nil ?_
  refine Wc.seq ?_
  refine Wc.region [] [] [1, 2, 3] [1, 2, 3] [] ⟨[(1, (.ptr 1 0, [])), (2, (.ptr 2 0, [])), (3, (.ptr 3 0, []))], [(1, .cells [.sl (List.map GCell.c e409_.gCells), .sl (List.map cI.i64 e409_.gTrail)] []), (2, .cells [.sl (List.map GCell.c []), .sl (List.map cI.i64 [])] [(0, .app 139), (1, .app 3)]), (3, .cells [.sl (List.map GCell.c []), .sl (List.map cI.i64 [])] [(0, .app 139), (1, .app 3)])], []⟩ _ (by kernel_rfl) .nil ?_
  refine Wc.seq ?_
  obtain ⟨g410_, h444, h⟩ := obind h
  refine Wc.region [{}, {}, { r := some (.v (.slx) [(0, .ex 139 true (List.map GCell.c g410_))]) }, {}, { tk := [6] }] [.so 3] [1, 2, 3] [1, 2, 3] [] ⟨[(1, (.ptr 1 0, [])), (2, (.ptr 2 0, [])), (3, (.ptr 3 0, []))], [(1, .cells [.sl (List.map GCell.c e409_.gCells), .sl (List.map cI.i64 e409_.gTrail)] []), (2, .cells [.sl (List.map GCell.c []), .sl (List.map cI.i64 [])] [(0, .app 139), (1, .app 3)]), (3, .cells [.slx, .sl (List.map cI.i64 [])] [(0, .ex 139 true (List.map GCell.c g410_)), (1, .app 3)])], []⟩ _ (by kernel_rfl) (.cons (claws_toCellS_d h444) .nil) ?_
  refine Wc.seq ?_
  obtain ⟨f411_, h445, h⟩ := obind h
  refine Wc.region [{}, {}, { r := some (.v (.slx) [(0, .ex 3 true (List.map cI.i64 f411_))]) }, {}, { tk := [10] }] [] [2, 3] [2, 3] [] ⟨[(2, (.ptr 2 0, [])), (3, (.ptr 3 0, []))], [(2, .cells [.sl (List.map GCell.c []), .sl (List.map cI.i64 [])] [(0, .app 139), (1, .app 3)]), (3, .cells [.slx, .slx] [(0, .ex 139 true (List.map GCell.c g410_)), (1, .ex 3 true (List.map cI.i64 f411_))])], []⟩ _ (by kernel_rfl) (.cons (claws_toIntS_d h445) .nil) ?_
  refine Wc.seq ?_
  refine Wc.region [{ md := 1 }, { tk := [12] }] [] [2] [2] [] ⟨[(2, (.ptr 2 0, []))], [(2, .cells [.slx, .slx] [(0, .ex 139 true (List.map GCell.c g410_)), (1, .ex 3 true (List.map cI.i64 f411_))])], []⟩ _ (by kernel_rfl) .nil ?_
  refine Wc.ret ?_
  obtain rfl := Option.some.inj h
  exact ⟨.inl rfl, by kernel_rfl, by kernel_rfl⟩

def plaws_toTermS_d_L1 (k : Nat) (rlaws_toTerm_d : GTerm → Option GTerm) (rlaws_toTermS_d : (List GTerm) → Option (List GTerm)) (i418_ : List GTerm) : Nat → (List GTerm) → Int → Option (Out (List GTerm) (List GTerm))
  | 0, _, _ => none
  | m + 1, i419_, b420_ =>
    if (decide (b420_ < (i418_.length : Int))) = true then
      (at' i418_ b420_).bind fun j422_ =>
      (rlaws_toTerm_d j422_).bind fun j423_ =>
      (at' i419_ b420_).bind fun j424_ =>
      plaws_toTermS_d_L1 k rlaws_toTerm_d rlaws_toTermS_d i418_ m (i419_.set ((b420_).toNat) j423_) (wr.i64 (b420_ + 1))
    else
      some (.done i419_)
mutual
/-- laws.toTerm -/
def plaws_toTerm_d : Nat → GTerm → Option GTerm
  | 0, _ => none
  | k + 1, j416_ =>
    (plaws_toTermS_d k j416_.gKids).bind fun u417_ =>
    some (GTerm.mk j416_.gKind j416_.gName j416_.gNum u417_)
/-- laws.toTermS -/
def plaws_toTermS_d : Nat → (List GTerm) → Option (List GTerm)
  | 0, _ => none
  | k + 1, i418_ =>
    if 0 ≤ (i418_.length : Int) ∧ (i418_.length : Int) ≤ 1073741824 then
      (plaws_toTermS_d_L1 k (plaws_toTerm_d k) (plaws_toTermS_d k) i418_ k (List.replicate ((i418_.length : Int)).toNat (GTerm.mk 0 (bs []) 0 [])) 0).bind fun out1 => match out1 with
      | .ret r => some r
      | .done i421_ =>
        some i421_
    else none
end
theorem all_plaws_toTerm_d : ∀ k : Nat, (∀ {j416_ : GTerm} {r : GTerm}, plaws_toTerm_d k j416_ = some r → FnO Try.prog 36 [.v (.agg [.int .i64 j416_.gKind, .str j416_.gName, .int .i64 j416_.gNum, .sl (List.map GTerm.c j416_.gKids)]) []] (.v (.agg [.int .i64 r.gKind, .str r.gName, .int .i64 r.gNum, .slx]) [(3, .ex 42 true (List.map GTerm.c r.gKids))]) []) ∧
    (∀ {i418_ : List GTerm} {r : (List GTerm)}, plaws_toTermS_d k i418_ = some r → FnO Try.prog 90 [.v (.sl (List.map GTerm.c i418_)) []] (.v (.slx) [(0, .ex 42 true (List.map GTerm.c r))]) []) := by
  intro k
  induction k with
  | zero =>
    refine ⟨?_, ?_⟩
    · intro j416_ r h
      exact (onone (by rw [plaws_toTerm_d] at h; exact h)).elim
    · intro i418_ r h
      exact (onone (by rw [plaws_toTermS_d] at h; exact h)).elim
  | succ k ih =>
    obtain ⟨ih_plaws_toTerm_d, ih_plaws_toTermS_d⟩ := ih
    refine ⟨?_, ?_⟩
    · intro j416_ r h
      rw [plaws_toTerm_d] at h
      refine FnO.of Try.func36 (rfl : Try.f36.body = some _) (Nat.le_of_ble_eq_true (by kernel_rfl)) (Nat.le_of_ble_eq_true (by kernel_rfl)) ?_
      intro w0 X0 Fin pv0 pb
      refine Wc.seq ?_
      refine Wc.region [] [] [1, 2] [1, 2] [] ⟨[(1, (.ptr 1 0, [])), (2, (.ptr 2 0, []))], [(1, .cells [.int .i64 j416_.gKind, .str j416_.gName, .int .i64 j416_.gNum, .sl (List.map GTerm.c j416_.gKids)] []), (2, .cells [.int .i64 0, .str (bs []), .int .i64 0, .sl (List.map GTerm.c [])] [(3, .app 42)])], []⟩ _ (by kernel_rfl) .nil ?_
      refine Wc.seq ?_
      refine Wc.region [] [] [1, 2, 3] [1, 2, 3] [] ⟨[(1, (.ptr 1 0, [])), (2, (.ptr 2 0, [])), (3, (.ptr 3 0, []))], [(1, .cells [.int .i64 j416_.gKind, .str j416_.gName, .int .i64 j416_.gNum, .sl (List.map GTerm.c j416_.gKids)] []), (2, .cells [.int .i64 0, .str (bs []), .int .i64 0, .sl (List.map GTerm.c [])] [(3, .app 42)]), (3, .cells [.int .i64 0, .str (bs []), .int .i64 0, .sl (List.map GTerm.c [])] [(3, .app 42)])], []⟩ _ (by kernel_rfl) .nil ?_
      refine Wc.seq ?_
      refine Wc.region [] [] [1, 2, 3] [1, 2, 3] [] ⟨[(1, (.ptr 1 0, [])), (2, (.ptr 2 0, [])), (3, (.ptr 3 0, []))], [(1, .cells [.int .i64 j416_.gKind, .str j416_.gName, .int .i64 j416_.gNum, .sl (List.map GTerm.c j416_.gKids)] []), (2, .cells [.int .i64 0, .str (bs []), .int .i64 0, .sl (List.map GTerm.c [])] [(3, .app 42)]), (3, .cells [.int .i64 j416_.gKind, .str (bs []), .int .i64 0, .sl (List.map GTerm.c [])] [(3, .app 42)])], []⟩ _ (by kernel_rfl) .nil ?_
      refine Wc.seq ?_
      refine Wc.region [] [] [1, 2, 3] [1, 2, 3] [] ⟨[(1, (.ptr 1 0, [])), (2, (.ptr 2 0, [])), (3, (.ptr 3 0, []))], [(1, .cells [.int .i64 j416_.gKind, .str j416_.gName, .int .i64 j416_.gNum, .sl (List.map GTerm.c j416_.gKids)] []), (2, .cells [.int .i64 0, .str (bs []), .int .i64 0, .sl (List.map GTerm.c [])] [(3, .app 42)]), (3, .cells [.int .i64 j416_.gKind, .str j416_.gName, .int .i64 0, .sl (List.map GTerm.c [])] [(3, .app 42)])], []⟩ _ (by kernel_rfl) .nil ?_
      refine Wc.seq ?_
      refine Wc.region [] [] [1, 2, 3] [1, 2, 3] [] ⟨[(1, (.ptr 1 0, [])), (2, (.ptr 2 0, [])), (3, (.ptr 3 0, []))], [(1, .cells [.int .i64 j416_.gKind, .str j416_.gName, .int .i64 j416_.gNum, .sl (List.map GTerm.c j416_.gKids)] []), (2, .cells [.int .i64 0, .str (bs []), .int .i64 0, .sl (List.map GTerm.c [])] [(3, .app 42)]), (3, .cells [.int .i64 j416_.gKind, .str j416_.gName, .int .i64 j416_.gNum, .sl (List.map GTerm.c [])] [(3, .app 42)])], []⟩ _ (by kernel_rfl) .nil ?_
      refine Wc.seq ?_
      obtain ⟨u417_, h450, h⟩ := obind h
      refine Wc.region [{}, {}, { r := some (.v (.slx) [(0, .ex 42 true (List.map GTerm.c u417_))]) }, {}, { tk := [15] }] [] [2, 3] [2, 3] [] ⟨[(2, (.ptr 2 0, [])), (3, (.ptr 3 0, []))], [(2, .cells [.int .i64 0, .str (bs []), .int .i64 0, .sl (List.map GTerm.c [])] [(3, .app 42)]), (3, .cells [.int .i64 j416_.gKind, .str j416_.gName, .int .i64 j416_.gNum, .slx] [(3, .ex 42 true (List.map GTerm.c u417_))])], []⟩ _ (by kernel_rfl) (.cons (ih_plaws_toTermS_d h450) .nil) ?_
      refine Wc.seq ?_
      refine Wc.region [{ md := 1 }, { tk := [17] }] [] [2] [2] [] ⟨[(2, (.ptr 2 0, []))], [(2, .cells [.int .i64 j416_.gKind, .str j416_.gName, .int .i64 j416_.gNum, .slx] [(3, .ex 42 true (List.map GTerm.c u417_))])], []⟩ _ (by kernel_rfl) .nil ?_
      refine Wc.ret ?_
      obtain rfl := Option.some.inj h
      exact ⟨.inl rfl, by kernel_rfl, by kernel_rfl⟩
    · intro i418_ r h
      rw [plaws_toTermS_d] at h
      refine FnO.of Try.func90 (rfl : Try.f90.body = some _) (Nat.le_of_ble_eq_true (by kernel_rfl)) (Nat.le_of_ble_eq_true (by kernel_rfl)) ?_
      intro w0 X0 Fin pv0 pb
      refine Wc.seq ?_
      refine Wc.region [] [] [0] [] [] ⟨[(0, (.v (.sl (List.map GTerm.c i418_)), []))], [], []⟩ _ (by kernel_rfl) .nil ?_
      refine Wc.seq ?_
      obtain ⟨h451, h⟩ := oguard h
      refine Wc.region [{}, { v := some (.int .i64 (i418_.length : Int)) }, { c := some (List.map GTerm.c (List.replicate ((i418_.length : Int)).toNat (GTerm.mk 0 (bs []) 0 []))) }, { tk := [7] }] [] [0, 3] [] [] ⟨[(0, (.v (.sl (List.map GTerm.c i418_)), [])), (3, (.v (.slx), [(0, .ex 42 true (List.map GTerm.c (List.replicate ((i418_.length : Int)).toNat (GTerm.mk 0 (bs []) 0 []))))]))], [], []⟩ _ (by kernel_rfl) (.cons (len_obl GTerm.c i418_) (.cons (rep_re (c := GTerm.c) (z := (GTerm.mk 0 (bs []) 0 [])) (GTerm.c_eq (GTerm.mk 0 (bs []) 0 [])) ((i418_.length : Int)).toNat) (.cons (ms_obl h451) .nil))) ?_
      refine Wc.seq ?_
      refine Wc.seq ?_
      refine Wc.region [] [] [0, 3, 4] [] [] ⟨[(0, (.v (.sl (List.map GTerm.c i418_)), [])), (3, (.v (.slx), [(0, .ex 42 true (List.map GTerm.c (List.replicate ((i418_.length : Int)).toNat (GTerm.mk 0 (bs []) 0 []))))])), (4, (.v (.int .i64 0), []))], [], []⟩ _ (by kernel_rfl) .nil ?_
      obtain ⟨out1, h452, h⟩ := obind h
      refine Wc.lastJ (fun st => ∃ (i421_ : List GTerm), out1 = .done i421_ ∧ st = ⟨[(3, (.v (.slx), [(0, .ex 42 true (List.map GTerm.c i421_))]))], [], []⟩) ?_ ?_
      · refine Wc.block ?_
        refine Wc.loop (fun m st => ∃ (i419_ : List GTerm) (b420_ : Int), st = ⟨[(0, (.v (.sl (List.map GTerm.c i418_)), [])), (3, (.v (.slx), [(0, .ex 42 true (List.map GTerm.c i419_))])), (4, (.v (.int .i64 b420_), []))], [], []⟩ ∧ plaws_toTermS_d_L1 k (plaws_toTerm_d k) (plaws_toTermS_d k) i418_ m i419_ b420_ = some out1) ?_ k ⟨_, _, rfl, h452⟩
        rintro m st ⟨i419_, b420_, rfl, h452⟩
        cases m with
        | zero => exact (onone h452).elim
        | succ m =>
          refine Wc.seq ?_
          refine Wc.seq ?_
          refine Wc.region [{}, {}, { v := some (.int .i64 (i418_.length : Int)) }] [] [0, 3, 4, 11] [] [] ⟨[(0, (.v (.sl (List.map GTerm.c i418_)), [])), (3, (.v (.slx), [(0, .ex 42 true (List.map GTerm.c i419_))])), (4, (.v (.int .i64 b420_), [])), (11, (.v (.bool (decide (b420_ < (i418_.length : Int)))), []))], [], []⟩ _ (by kernel_rfl) (.cons (len_obl GTerm.c i418_) .nil) ?_
          rcases oif h452 with ⟨h453, h452⟩ | ⟨h453, h452⟩
          · refine Wc.condT h453 (by kernel_rfl) ?_
            refine Wc.fix (st' := ⟨[(0, (.v (.sl (List.map GTerm.c i418_)), [])), (3, (.v (.slx), [(0, .ex 42 true (List.map GTerm.c i419_))])), (4, (.v (.int .i64 b420_), []))], [], []⟩) [] [0, 3, 4] [] [] (by kernel_rfl) ?_
            refine Wc.skip ?_
            refine Wc.seq ?_
            refine Wc.block ?_
            obtain ⟨j422_, h454, h452⟩ := obind h452
            obtain ⟨j423_, h455, h452⟩ := obind h452
            obtain ⟨j424_, h456, h452⟩ := obind h452
            refine Wc.region [{}, {}, {}, {}, { v := some (.vptr [.int .i64 j422_.gKind, .str j422_.gName, .int .i64 j422_.gNum, .sl (List.map GTerm.c j422_.gKids)]) }, {}, { r := some (.v (.agg [.int .i64 j423_.gKind, .str j423_.gName, .int .i64 j423_.gNum, .slx]) [(3, .ex 42 true (List.map GTerm.c j423_.gKids))]) }, {}, { c := some (List.map GTerm.c (i419_.set ((b420_).toNat) j423_)), tk := [20] }] [] [0, 3, 4] [] [] ⟨[(0, (.v (.sl (List.map GTerm.c i418_)), [])), (3, (.v (.slx), [(0, .ex 42 true (List.map GTerm.c (i419_.set ((b420_).toNat) j423_)))])), (4, (.v (.int .i64 b420_), []))], [], []⟩ _ (by kernel_rfl) (.cons (at_obl (c := GTerm.c) (GTerm.c_eq j422_) GTerm.c_len h454) (.cons (len_ok 4 [.int .i64 j422_.gKind, .str j422_.gName, .int .i64 j422_.gNum, .sl (List.map GTerm.c j422_.gKids)]) (.cons (ih_plaws_toTerm_d h455) (.cons (ix_obl (c := GTerm.c) GTerm.c_len h456) (.cons (mod_obl (off := 0) (new := [.int .i64 j423_.gKind, .str j423_.gName, .int .i64 j423_.gNum, .sl (List.map GTerm.c j423_.gKids)]) (c := GTerm.c) (GTerm.c_eq j424_) (GTerm.c_eq j423_) (at'_spec h456).2 rfl) (.cons (st_obl (sz := 4) (off := 0) (s := 4) (c := GTerm.c) (GTerm.c_eq j424_) (at'_spec h456).2 rfl (Nat.le_of_ble_eq_true rfl)) .nil)))))) ?_
            refine Wc.region [] [] [0, 3, 4] [] [] ⟨[(0, (.v (.sl (List.map GTerm.c i418_)), [])), (3, (.v (.slx), [(0, .ex 42 true (List.map GTerm.c (i419_.set ((b420_).toNat) j423_)))])), (4, (.v (.int .i64 (wr.i64 (b420_ + 1))), []))], [], []⟩ _ (by kernel_rfl) .nil ?_
            exact ⟨_, Nat.lt_succ_self _, _, _, rfl, h452⟩
          · refine Wc.condF h453 (by kernel_rfl) ?_
            refine Wc.fix (st' := ⟨[(3, (.v (.slx), [(0, .ex 42 true (List.map GTerm.c i419_))]))], [], []⟩) [] [3] [] [] (by kernel_rfl) ?_
            refine Wc.exit ?_
            obtain rfl := Option.some.inj h452
            exact ⟨_, rfl, rfl⟩
      · rintro st ⟨i421_, rfl, rfl⟩
        refine Wc.seq ?_
        refine Wc.region [{ tk := [3] }, { tk := [22] }] [] [2] [] [] ⟨[(2, (.v (.slx), [(0, .ex 42 true (List.map GTerm.c i421_))]))], [], []⟩ _ (by kernel_rfl) .nil ?_
        refine Wc.ret ?_
        obtain rfl := Option.some.inj h
        exact ⟨.inl rfl, by kernel_rfl, by kernel_rfl⟩
theorem claws_toTerm_d {k : Nat} {j416_ : GTerm} {r : GTerm} (h : plaws_toTerm_d k j416_ = some r) : FnO Try.prog 36 [.v (.agg [.int .i64 j416_.gKind, .str j416_.gName, .int .i64 j416_.gNum, .sl (List.map GTerm.c j416_.gKids)]) []] (.v (.agg [.int .i64 r.gKind, .str r.gName, .int .i64 r.gNum, .slx]) [(3, .ex 42 true (List.map GTerm.c r.gKids))]) [] := (all_plaws_toTerm_d k).1 h
theorem claws_toTermS_d {k : Nat} {i418_ : List GTerm} {r : (List GTerm)} (h : plaws_toTermS_d k i418_ = some r) : FnO Try.prog 90 [.v (.sl (List.map GTerm.c i418_)) []] (.v (.slx) [(0, .ex 42 true (List.map GTerm.c r))]) [] := (all_plaws_toTerm_d k).2 h

/-- impl.PutTerm -/
def pimpl_PutTerm_d (k : Nat) (e417_ : GHeap) (j418_ : GTerm) : Option (GHeap × Int) :=
  (pimpl_HeapOk k e417_).bind fun l419_ =>
  if (!l419_) = true then
    (pimpl_copyHeap_d k e417_).bind fun e421_ =>
    some (e421_, -1)
  else
    (pimpl_TermOk k j418_).bind fun l420_ =>
    if (!l420_) = true then
      (pimpl_copyHeap_d k e417_).bind fun e422_ =>
      some (e422_, -1)
    else
      (pimpl_copyHeap_d k e417_).bind fun e423_ =>
      (pimpl_put k e423_ j418_).bind fun t424_ =>
      if (decide ((t424_.1.gCells.length : Int) > 60000)) = true then
        (pimpl_copyHeap_d k e417_).bind fun e425_ =>
        some (e425_, -1)
      else
        some (GHeap.mk t424_.1.gCells t424_.1.gTrail, t424_.2)
theorem cimpl_PutTerm_d {k : Nat} {e417_ : GHeap} {j418_ : GTerm} {r : GHeap × Int} (h : pimpl_PutTerm_d k e417_ j418_ = some r) : FnO Try.prog 37 [.v (.agg [.sl (List.map GCell.c e417_.gCells), .sl (List.map cI.i64 e417_.gTrail)]) [], .v (.agg [.int .i64 j418_.gKind, .str j418_.gName, .int .i64 j418_.gNum, .sl (List.map GTerm.c j418_.gKids)]) []] (.v (.tup [.agg [.slx, .slx], .int .i64 r.2]) [(0, .ex 139 true (List.map GCell.c r.1.gCells)), (1, .ex 3 true (List.map cI.i64 r.1.gTrail))]) [] := by
  refine FnO.of Try.func37 (rfl : Try.f37.body = some _) (Nat.le_of_ble_eq_true (by kernel_rfl)) (Nat.le_of_ble_eq_true (by kernel_rfl)) ?_
  intro w0 X0 Fin pv0 pb
  unfold pimpl_PutTerm_d at h
  refine Wc.seq ?_
  refine Wc.region [] [] [2, 3, 4] [2, 3, 4] [] ⟨[(2, (.ptr 2 0, [])), (3, (.ptr 3 0, [])), (4, (.ptr 4 0, []))], [(2, .cells [.sl (List.map GCell.c e417_.gCells), .sl (List.map cI.i64 e417_.gTrail)] []), (3, .cells [.int .i64 j418_.gKind, .str j418_.gName, .int .i64 j418_.gNum, .sl (List.map GTerm.c j418_.gKids)] []), (4, .cells [.sl (List.map GCell.c []), .sl (List.map cI.i64 [])] [(0, .app 139), (1, .app 3)])], []⟩ _ (by kernel_rfl) .nil ?_
  refine Wc.seq ?_
  refine Wc.seq ?_
  obtain ⟨l419_, h454, h⟩ := obind h
  rcases oif h with ⟨h455, h⟩ | ⟨h455, h⟩
  · refine Wc.region [{}, { r := some (.v (.bool l419_) []) }, {}, { re := some (.bool true) }] [] [2, 3, 4, 15] [2, 3, 4] [] ⟨[(2, (.ptr 2 0, [])), (3, (.ptr 3 0, [])), (4, (.ptr 4 0, [])), (15, (.v (.bool true), []))], [(2, .cells [.sl (List.map GCell.c e417_.gCells), .sl (List.map cI.i64 e417_.gTrail)] []), (3, .cells [.int .i64 j418_.gKind, .str j418_.gName, .int .i64 j418_.gNum, .sl (List.map GTerm.c j418_.gKids)] []), (4, .cells [.sl (List.map GCell.c []), .sl (List.map cI.i64 [])] [(0, .app 139), (1, .app 3)])], []⟩ _ (by kernel_rfl) (.cons (cimpl_HeapOk h454) (.cons (congrArg AV.bool h455) .nil)) ?_
    refine Wc.condT rfl (by kernel_rfl) ?_
    refine Wc.seq ?_
    obtain ⟨e421_, h457, h⟩ := obind h
    refine Wc.region [{}, { r := some (.v (.agg [.slx, .slx]) [(0, .ex 139 true (List.map GCell.c e421_.gCells)), (1, .ex 3 true (List.map cI.i64 e421_.gTrail))]) }, { tk := [17] }] [] [4, 5] [4] [] ⟨[(4, (.ptr 4 0, [])), (5, (.v (.int .i64 (-1)), []))], [(4, .cells [.slx, .slx] [(0, .ex 139 true (List.map GCell.c e421_.gCells)), (1, .ex 3 true (List.map cI.i64 e421_.gTrail))])], []⟩ _ (by kernel_rfl) (.cons (cimpl_copyHeap_d h457) .nil) ?_
    refine Wc.ret ?_
    obtain rfl := Option.some.inj h
    exact ⟨.inl rfl, by kernel_rfl, by kernel_rfl⟩
  · obtain ⟨l420_, h456, h⟩ := obind h
    refine Wc.region [{}, { r := some (.v (.bool l419_) []) }, {}, { re := some (.bool false) }, {}, { r := some (.v (.bool l420_) []) }] [] [2, 3, 4, 15] [2, 3, 4] [] ⟨[(2, (.ptr 2 0, [])), (3, (.ptr 3 0, [])), (4, (.ptr 4 0, [])), (15, (.v (.bool (!l420_)), []))], [(2, .cells [.sl (List.map GCell.c e417_.gCells), .sl (List.map cI.i64 e417_.gTrail)] []), (3, .cells [.int .i64 j418_.gKind, .str j418_.gName, .int .i64 j418_.gNum, .sl (List.map GTerm.c j418_.gKids)] []), (4, .cells [.sl (List.map GCell.c []), .sl (List.map cI.i64 [])] [(0, .app 139), (1, .app 3)])], []⟩ _ (by kernel_rfl) (.cons (cimpl_HeapOk h454) (.cons (congrArg AV.bool h455) (.cons (cimpl_TermOk h456) .nil))) ?_
    rcases oif h with ⟨h458, h⟩ | ⟨h458, h⟩
    · refine Wc.condT h458 (by kernel_rfl) ?_
      refine Wc.seq ?_
      obtain ⟨e422_, h459, h⟩ := obind h
      refine Wc.region [{}, { r := some (.v (.agg [.slx, .slx]) [(0, .ex 139 true (List.map GCell.c e422_.gCells)), (1, .ex 3 true (List.map cI.i64 e422_.gTrail))]) }, { tk := [17] }] [] [4, 5] [4] [] ⟨[(4, (.ptr 4 0, [])), (5, (.v (.int .i64 (-1)), []))], [(4, .cells [.slx, .slx] [(0, .ex 139 true (List.map GCell.c e422_.gCells)), (1, .ex 3 true (List.map cI.i64 e422_.gTrail))])], []⟩ _ (by kernel_rfl) (.cons (cimpl_copyHeap_d h459) .nil) ?_
      refine Wc.ret ?_
      obtain rfl := Option.some.inj h
      exact ⟨.inl rfl, by kernel_rfl, by kernel_rfl⟩
    · refine Wc.condF h458 (by kernel_rfl) ?_
      refine Wc.fix (st' := ⟨[(2, (.ptr 2 0, [])), (3, (.ptr 3 0, [])), (4, (.ptr 4 0, []))], [(2, .cells [.sl (List.map GCell.c e417_.gCells), .sl (List.map cI.i64 e417_.gTrail)] []), (3, .cells [.int .i64 j418_.gKind, .str j418_.gName, .int .i64 j418_.gNum, .sl (List.map GTerm.c j418_.gKids)] []), (4, .cells [.sl (List.map GCell.c []), .sl (List.map cI.i64 [])] [(0, .app 139), (1, .app 3)])], []⟩) [] [2, 3, 4] [2, 3, 4] [] (by kernel_rfl) ?_
      refine Wc.skip ?_
      refine Wc.seq ?_
      obtain ⟨e423_, h460, h⟩ := obind h
      refine Wc.region [{}, { r := some (.v (.agg [.slx, .slx]) [(0, .ex 139 true (List.map GCell.c e423_.gCells)), (1, .ex 3 true (List.map cI.i64 e423_.gTrail))]) }, {}, { tk := [19] }] [] [2, 3, 4, 6] [2, 3, 4, 6] [] ⟨[(2, (.ptr 2 0, [])), (3, (.ptr 3 0, [])), (4, (.ptr 4 0, [])), (6, (.ptr 6 0, []))], [(2, .cells [.sl (List.map GCell.c e417_.gCells), .sl (List.map cI.i64 e417_.gTrail)] []), (3, .cells [.int .i64 j418_.gKind, .str j418_.gName, .int .i64 j418_.gNum, .sl (List.map GTerm.c j418_.gKids)] []), (4, .cells [.sl (List.map GCell.c []), .sl (List.map cI.i64 [])] [(0, .app 139), (1, .app 3)]), (6, .cells [.slx, .slx] [(0, .ex 139 true (List.map GCell.c e423_.gCells)), (1, .ex 3 true (List.map cI.i64 e423_.gTrail))])], []⟩ _ (by kernel_rfl) (.cons (cimpl_copyHeap_d h460) .nil) ?_
      refine Wc.seq ?_
      obtain ⟨t424_, h461, h⟩ := obind h
      refine Wc.region [{}, { r := some (.v (.int .i64 t424_.2) []), outs := [(0, .p [.slx, .slx] [(0, .ex 139 true (List.map GCell.c t424_.1.gCells)), (1, .ex 3 true (List.map cI.i64 t424_.1.gTrail))])] }] [] [2, 4, 6, 7] [2, 4, 6] [] ⟨[(2, (.ptr 2 0, [])), (4, (.ptr 4 0, [])), (6, (.ptr 6 0, [])), (7, (.v (.int .i64 t424_.2), []))], [(2, .cells [.sl (List.map GCell.c e417_.gCells), .sl (List.map cI.i64 e417_.gTrail)] []), (4, .cells [.sl (List.map GCell.c []), .sl (List.map cI.i64 [])] [(0, .app 139), (1, .app 3)]), (6, .cells [.slx, .slx] [(0, .ex 139 true (List.map GCell.c t424_.1.gCells)), (1, .ex 3 true (List.map cI.i64 t424_.1.gTrail))])], []⟩ _ (by kernel_rfl) (.cons (cimpl_put h461) .nil) ?_
      refine Wc.seq ?_
      refine Wc.seq ?_
      refine Wc.region [{}, {}, { v := some (.int .i64 (t424_.1.gCells.length : Int)) }] [] [2, 4, 6, 7, 25] [2, 4, 6] [] ⟨[(2, (.ptr 2 0, [])), (4, (.ptr 4 0, [])), (6, (.ptr 6 0, [])), (7, (.v (.int .i64 t424_.2), [])), (25, (.v (.bool (decide ((t424_.1.gCells.length : Int) > 60000))), []))], [(2, .cells [.sl (List.map GCell.c e417_.gCells), .sl (List.map cI.i64 e417_.gTrail)] []), (4, .cells [.sl (List.map GCell.c []), .sl (List.map cI.i64 [])] [(0, .app 139), (1, .app 3)]), (6, .cells [.slx, .slx] [(0, .ex 139 true (List.map GCell.c t424_.1.gCells)), (1, .ex 3 true (List.map cI.i64 t424_.1.gTrail))])], []⟩ _ (by kernel_rfl) (.cons (len_obl GCell.c t424_.1.gCells) .nil) ?_
      rcases oif h with ⟨h462, h⟩ | ⟨h462, h⟩
      · refine Wc.condT h462 (by kernel_rfl) ?_
        refine Wc.seq ?_
        obtain ⟨e425_, h463, h⟩ := obind h
        refine Wc.region [{}, { r := some (.v (.agg [.slx, .slx]) [(0, .ex 139 true (List.map GCell.c e425_.gCells)), (1, .ex 3 true (List.map cI.i64 e425_.gTrail))]) }, { tk := [27] }] [] [4, 5] [4] [] ⟨[(4, (.ptr 4 0, [])), (5, (.v (.int .i64 (-1)), []))], [(4, .cells [.slx, .slx] [(0, .ex 139 true (List.map GCell.c e425_.gCells)), (1, .ex 3 true (List.map cI.i64 e425_.gTrail))])], []⟩ _ (by kernel_rfl) (.cons (cimpl_copyHeap_d h463) .nil) ?_
        refine Wc.ret ?_
        obtain rfl := Option.some.inj h
        exact ⟨.inl rfl, by kernel_rfl, by kernel_rfl⟩
      · refine Wc.condF h462 (by kernel_rfl) ?_
        refine Wc.fix (st' := ⟨[(4, (.ptr 4 0, [])), (6, (.ptr 6 0, [])), (7, (.v (.int .i64 t424_.2), []))], [(4, .cells [.sl (List.map GCell.c []), .sl (List.map cI.i64 [])] [(0, .app 139), (1, .app 3)]), (6, .cells [.slx, .slx] [(0, .ex 139 true (List.map GCell.c t424_.1.gCells)), (1, .ex 3 true (List.map cI.i64 t424_.1.gTrail))])], []⟩) [] [4, 6, 7] [4, 6] [] (by kernel_rfl) ?_
        refine Wc.skip ?_
        refine Wc.seq ?_
        refine Wc.region [{ md := 1 }, {}, { tk := [28] }] [] [4, 5] [4] [] ⟨[(4, (.ptr 4 0, [])), (5, (.v (.int .i64 t424_.2), []))], [(4, .cells [.slx, .slx] [(0, .ex 139 true (List.map GCell.c t424_.1.gCells)), (1, .ex 3 true (List.map cI.i64 t424_.1.gTrail))])], []⟩ _ (by kernel_rfl) .nil ?_
        refine Wc.ret ?_
        obtain rfl := Option.some.inj h
        exact ⟨.inl rfl, by kernel_rfl, by kernel_rfl⟩

/-- laws.FnExactPutTerm -/
def plaws_FnExactPutTerm (k : Nat) (e399_ : GHeap) (j400_ : GTerm) : Option Bool :=
  (plaws_szHeap k e399_ 1048576).bind fun b401_ =>
  if (decide (b401_ < 0)) = true then
    some true
  else
    (plaws_szTerm k j400_ b401_).bind fun b402_ =>
    if (decide (b402_ < 0)) = true then
      some true
    else
      (plaws_toHeap k e399_).bind fun e403_ =>
      (plaws_toTerm k j400_).bind fun j404_ =>
      (pspec_PutTerm k e403_ j404_).bind fun t405_ =>
      (plaws_toHeap_d k e399_).bind fun e406_ =>
      (plaws_toTerm_d k j400_).bind fun j407_ =>
      (pimpl_PutTerm_d k e406_ j407_).bind fun t408_ =>
      (plaws_eqHeap k (GHeap.mk t408_.1.gCells t408_.1.gTrail) (GHeap.mk t405_.1.gCells t405_.1.gTrail)).bind fun l409_ =>
      if (!l409_) = true then
        some false
      else
        if (t408_.2 != t405_.2) = true then
          some false
        else
          (plaws_toHeap k e399_).bind fun e410_ =>
          (plaws_eqHeap k e406_ e410_).bind fun l411_ =>
          if (!l411_) = true then
            some false
          else
            (plaws_toTerm k j400_).bind fun j412_ =>
            (plaws_eqTerm k j407_ j412_).bind fun l413_ =>
            if (!l413_) = true then
              some false
            else
              (plaws_markHeap k e406_ 1).bind fun t414_ =>
              (plaws_markTerm k j407_ t414_.2).bind fun w415_ =>
              if (decide (w415_.2 < 0)) = true then
                some false
              else
                (plaws_eqHeap k (GHeap.mk t408_.1.gCells t408_.1.gTrail) (GHeap.mk t405_.1.gCells t405_.1.gTrail)).bind fun l416_ =>
                if (!l416_) = true then
                  some false
                else
                  if (t408_.2 != t405_.2) = true then
                    some false
                  else
                    (plaws_markHeap k (GHeap.mk t408_.1.gCells t408_.1.gTrail) 1).bind fun t417_ =>
                    (plaws_heldHeap k (GHeap.mk t417_.1.gCells t417_.1.gTrail) 1).bind fun b418_ =>
                    if (decide (b418_ < 0)) = true then
                      some false
                    else
                      if (b418_ != t417_.2) = true then
                        some false
                      else
                        (plaws_toHeap k e399_).bind fun e419_ =>
                        (plaws_toTerm k j400_).bind fun j420_ =>
                        (pimpl_PutTerm k e419_ j420_).bind fun t421_ =>
                        (plaws_eqHeap k (GHeap.mk t421_.1.gCells t421_.1.gTrail) (GHeap.mk t405_.1.gCells t405_.1.gTrail)).bind fun l422_ =>
                        if (!l422_) = true then
                          some false
                        else
                          if (t421_.2 != t405_.2) = true then
                            some false
                          else
                            (plaws_heldHeap k (GHeap.mk t417_.1.gCells t417_.1.gTrail) 1).bind fun b423_ =>
                            if (decide (b423_ < 0)) = true then
                              some false
                            else
                              if (b423_ != t417_.2) = true then
                                some false
                              else
                                some true
set_option maxHeartbeats 4000000 in
theorem claws_FnExactPutTerm {k : Nat} {e399_ : GHeap} {j400_ : GTerm} {r : Bool} (h : plaws_FnExactPutTerm k e399_ j400_ = some r) : FnO Try.prog 6 [.v (.agg [.sl (List.map GCell.c e399_.gCells), .sl (List.map cI.i64 e399_.gTrail)]) [], .v (.agg [.int .i64 j400_.gKind, .str j400_.gName, .int .i64 j400_.gNum, .sl (List.map GTerm.c j400_.gKids)]) []] (.v (.bool r) []) [] := by
  refine FnO.of Try.func6 (rfl : Try.f6.body = some _) (Nat.le_of_ble_eq_true (by kernel_rfl)) (Nat.le_of_ble_eq_true (by kernel_rfl)) ?_
  intro w0 X0 Fin pv0 pb
  unfold plaws_FnExactPutTerm at h
  refine Wc.seq ?_
  refine Wc.region [] [] [2, 3] [2, 3] [] ⟨[(2, (.ptr 2 0, [])), (3, (.ptr 3 0, []))], [(2, .cells [.sl (List.map GCell.c e399_.gCells), .sl (List.map cI.i64 e399_.gTrail)] []), (3, .cells [.int .i64 j400_.gKind, .str j400_.gName, .int .i64 j400_.gNum, .sl (List.map GTerm.c j400_.gKids)] [])], []⟩ _ (by kernel_rfl) .nil ?_
  refine Wc.seq ?_
  refine Wc.region [] [] [2, 3, 5] [2, 3] [] ⟨[(2, (.ptr 2 0, [])), (3, (.ptr 3 0, [])), (5, (.v (.int .i64 1048576), []))], [(2, .cells [.sl (List.map GCell.c e399_.gCells), .sl (List.map cI.i64 e399_.gTrail)] []), (3, .cells [.int .i64 j400_.gKind, .str j400_.gName, .int .i64 j400_.gNum, .sl (List.map GTerm.c j400_.gKids)] [])], []⟩ _ (by kernel_rfl) .nil ?_
  refine Wc.seq ?_
  obtain ⟨b401_, h435, h⟩ := obind h
  refine Wc.region [{}, {}, { r := some (.v (.int .i64 b401_) []) }] [] [2, 3, 5] [2, 3] [] ⟨[(2, (.ptr 2 0, [])), (3, (.ptr 3 0, [])), (5, (.v (.int .i64 b401_), []))], [(2, .cells [.sl (List.map GCell.c e399_.gCells), .sl (List.map cI.i64 e399_.gTrail)] []), (3, .cells [.int .i64 j400_.gKind, .str j400_.gName, .int .i64 j400_.gNum, .sl (List.map GTerm.c j400_.gKids)] [])], []⟩ _ (by kernel_rfl) (.cons (claws_szHeap h435) .nil) ?_
  refine Wc.seq ?_
  refine Wc.seq ?_
  refine Wc.region [] [] [2, 3, 5, 21] [2, 3] [] ⟨[(2, (.ptr 2 0, [])), (3, (.ptr 3 0, [])), (5, (.v (.int .i64 b401_), [])), (21, (.v (.bool (decide (b401_ < 0))), []))], [(2, .cells [.sl (List.map GCell.c e399_.gCells), .sl (List.map cI.i64 e399_.gTrail)] []), (3, .cells [.int .i64 j400_.gKind, .str j400_.gName, .int .i64 j400_.gNum, .sl (List.map GTerm.c j400_.gKids)] [])], []⟩ _ (by kernel_rfl) .nil ?_
  rcases oif h with ⟨h436, h⟩ | ⟨h436, h⟩
  · refine Wc.condT h436 (by kernel_rfl) ?_
    refine Wc.seq ?_
    refine Wc.region [] [] [4] [] [] ⟨[(4, (.v (.bool true), []))], [], []⟩ _ (by kernel_rfl) .nil ?_
    refine Wc.ret ?_
    obtain rfl := Option.some.inj h
    exact ⟨.inl rfl, by kernel_rfl, by kernel_rfl⟩
  · refine Wc.condF h436 (by kernel_rfl) ?_
    refine Wc.fix (st' := ⟨[(2, (.ptr 2 0, [])), (3, (.ptr 3 0, [])), (5, (.v (.int .i64 b401_), []))], [(2, .cells [.sl (List.map GCell.c e399_.gCells), .sl (List.map cI.i64 e399_.gTrail)] []), (3, .cells [.int .i64 j400_.gKind, .str j400_.gName, .int .i64 j400_.gNum, .sl (List.map GTerm.c j400_.gKids)] [])], []⟩) [] [2, 3, 5] [2, 3] [] (by kernel_rfl) ?_
    refine Wc.skip ?_
    refine Wc.seq ?_
    obtain ⟨b402_, h437, h⟩ := obind h
    refine Wc.region [{}, {}, { r := some (.v (.int .i64 b402_) []) }] [] [2, 3, 5] [2, 3] [] ⟨[(2, (.ptr 2 0, [])), (3, (.ptr 3 0, [])), (5, (.v (.int .i64 b402_), []))], [(2, .cells [.sl (List.map GCell.c e399_.gCells), .sl (List.map cI.i64 e399_.gTrail)] []), (3, .cells [.int .i64 j400_.gKind, .str j400_.gName, .int .i64 j400_.gNum, .sl (List.map GTerm.c j400_.gKids)] [])], []⟩ _ (by kernel_rfl) (.cons (claws_szTerm h437) .nil) ?_
    refine Wc.seq ?_
    refine Wc.seq ?_
    refine Wc.region [] [] [2, 3, 26] [2, 3] [] ⟨[(2, (.ptr 2 0, [])), (3, (.ptr 3 0, [])), (26, (.v (.bool (decide (b402_ < 0))), []))], [(2, .cells [.sl (List.map GCell.c e399_.gCells), .sl (List.map cI.i64 e399_.gTrail)] []), (3, .cells [.int .i64 j400_.gKind, .str j400_.gName, .int .i64 j400_.gNum, .sl (List.map GTerm.c j400_.gKids)] [])], []⟩ _ (by kernel_rfl) .nil ?_
    rcases oif h with ⟨h438, h⟩ | ⟨h438, h⟩
    · refine Wc.condT h438 (by kernel_rfl) ?_
      refine Wc.seq ?_
      refine Wc.region [] [] [4] [] [] ⟨[(4, (.v (.bool true), []))], [], []⟩ _ (by kernel_rfl) .nil ?_
      refine Wc.ret ?_
      obtain rfl := Option.some.inj h
      exact ⟨.inl rfl, by kernel_rfl, by kernel_rfl⟩
    · refine Wc.condF h438 (by kernel_rfl) ?_
      refine Wc.fix (st' := ⟨[(2, (.ptr 2 0, [])), (3, (.ptr 3 0, []))], [(2, .cells [.sl (List.map GCell.c e399_.gCells), .sl (List.map cI.i64 e399_.gTrail)] []), (3, .cells [.int .i64 j400_.gKind, .str j400_.gName, .int .i64 j400_.gNum, .sl (List.map GTerm.c j400_.gKids)] [])], []⟩) [] [2, 3] [2, 3] [] (by kernel_rfl) ?_
      refine Wc.skip ?_
      refine Wc.seq ?_
      obtain ⟨e403_, h439, h⟩ := obind h
      obtain ⟨j404_, h440, h⟩ := obind h
      obtain ⟨t405_, h441, h⟩ := obind h
      refine Wc.draw hmix [{}, { r := some (.v (.agg [.sl (List.map GCell.c e403_.gCells), .sl (List.map cI.i64 e403_.gTrail)]) []) }, {}, { r := some (.v (.agg [.int .i64 j404_.gKind, .str j404_.gName, .int .i64 j404_.gNum, .sl (List.map GTerm.c j404_.gKids)]) []) }, { r := some (.v (.tup [.agg [.sl (List.map GCell.c t405_.1.gCells), .sl (List.map cI.i64 t405_.1.gTrail)], .int .i64 t405_.2]) []) }] [] [2, 3, 6, 7] [2, 3, 6] [] ⟨[(2, (.ptr 2 0, [])), (3, (.ptr 3 0, [])), (6, (.ptr 6 0, [])), (7, (.v (.int .i64 t405_.2), []))], [(2, .cells [.sl (List.map GCell.c e399_.gCells), .sl (List.map cI.i64 e399_.gTrail)] []), (3, .cells [.int .i64 j400_.gKind, .str j400_.gName, .int .i64 j400_.gNum, .sl (List.map GTerm.c j400_.gKids)] []), (6, .cells [.sl (List.map GCell.c t405_.1.gCells), .sl (List.map cI.i64 t405_.1.gTrail)] [])], []⟩ _ (by kernel_rfl) (fun X => by kernel_rfl) (.cons (claws_toHeap h439) (.cons (claws_toTerm h440) (.cons (FnO.un (cspec_PutTerm h441)) .nil))) ?_
      refine Wc.seq ?_
      obtain ⟨e406_, h442, h⟩ := obind h
      refine Wc.region [{}, { r := some (.v (.agg [.slx, .slx]) [(0, .ex 139 true (List.map GCell.c e406_.gCells)), (1, .ex 3 true (List.map cI.i64 e406_.gTrail))]) }, {}, { tk := [36] }] [] [2, 3, 6, 7, 8] [2, 3, 6, 8] [] ⟨[(2, (.ptr 2 0, [])), (3, (.ptr 3 0, [])), (6, (.ptr 6 0, [])), (7, (.v (.int .i64 t405_.2), [])), (8, (.ptr 8 0, []))], [(2, .cells [.sl (List.map GCell.c e399_.gCells), .sl (List.map cI.i64 e399_.gTrail)] []), (3, .cells [.int .i64 j400_.gKind, .str j400_.gName, .int .i64 j400_.gNum, .sl (List.map GTerm.c j400_.gKids)] []), (6, .cells [.sl (List.map GCell.c t405_.1.gCells), .sl (List.map cI.i64 t405_.1.gTrail)] []), (8, .cells [.slx, .slx] [(0, .ex 139 true (List.map GCell.c e406_.gCells)), (1, .ex 3 true (List.map cI.i64 e406_.gTrail))])], []⟩ _ (by kernel_rfl) (.cons (claws_toHeap_d h442) .nil) ?_
      refine Wc.seq ?_
      obtain ⟨j407_, h443, h⟩ := obind h
      refine Wc.region [{}, { r := some (.v (.agg [.int .i64 j407_.gKind, .str j407_.gName, .int .i64 j407_.gNum, .slx]) [(3, .ex 42 true (List.map GTerm.c j407_.gKids))]) }, {}, { tk := [38] }] [] [2, 3, 6, 7, 8, 9] [2, 3, 6, 8, 9] [] ⟨[(2, (.ptr 2 0, [])), (3, (.ptr 3 0, [])), (6, (.ptr 6 0, [])), (7, (.v (.int .i64 t405_.2), [])), (8, (.ptr 8 0, [])), (9, (.ptr 9 0, []))], [(2, .cells [.sl (List.map GCell.c e399_.gCells), .sl (List.map cI.i64 e399_.gTrail)] []), (3, .cells [.int .i64 j400_.gKind, .str j400_.gName, .int .i64 j400_.gNum, .sl (List.map GTerm.c j400_.gKids)] []), (6, .cells [.sl (List.map GCell.c t405_.1.gCells), .sl (List.map cI.i64 t405_.1.gTrail)] []), (8, .cells [.slx, .slx] [(0, .ex 139 true (List.map GCell.c e406_.gCells)), (1, .ex 3 true (List.map cI.i64 e406_.gTrail))]), (9, .cells [.int .i64 j407_.gKind, .str j407_.gName, .int .i64 j407_.gNum, .slx] [(3, .ex 42 true (List.map GTerm.c j407_.gKids))])], []⟩ _ (by kernel_rfl) (.cons (claws_toTerm_d h443) .nil) ?_
      refine Wc.seq ?_
      obtain ⟨t408_, h444, h⟩ := obind h
      refine Wc.region [{}, {}, { r := some (.v (.tup [.agg [.slx, .slx], .int .i64 t408_.2]) [(0, .ex 139 true (List.map GCell.c t408_.1.gCells)), (1, .ex 3 true (List.map cI.i64 t408_.1.gTrail))]) }, { tk := [42] }, { tk := [39] }, {}, {}, { tk := [43] }] [] [2, 3, 6, 7, 8, 9, 10, 11] [2, 3, 6, 8, 9, 10] [] ⟨[(2, (.ptr 2 0, [])), (3, (.ptr 3 0, [])), (6, (.ptr 6 0, [])), (7, (.v (.int .i64 t405_.2), [])), (8, (.ptr 8 0, [])), (9, (.ptr 9 0, [])), (10, (.ptr 10 0, [])), (11, (.v (.int .i64 t408_.2), []))], [(2, .cells [.sl (List.map GCell.c e399_.gCells), .sl (List.map cI.i64 e399_.gTrail)] []), (3, .cells [.int .i64 j400_.gKind, .str j400_.gName, .int .i64 j400_.gNum, .sl (List.map GTerm.c j400_.gKids)] []), (6, .cells [.sl (List.map GCell.c t405_.1.gCells), .sl (List.map cI.i64 t405_.1.gTrail)] []), (8, .cells [.slx, .slx] [(0, .ex 139 true (List.map GCell.c e406_.gCells)), (1, .ex 3 true (List.map cI.i64 e406_.gTrail))]), (9, .cells [.int .i64 j407_.gKind, .str j407_.gName, .int .i64 j407_.gNum, .slx] [(3, .ex 42 true (List.map GTerm.c j407_.gKids))]), (10, .cells [.slx, .slx] [(0, .ex 139 true (List.map GCell.c t408_.1.gCells)), (1, .ex 3 true (List.map cI.i64 t408_.1.gTrail))])], []⟩ _ (by kernel_rfl) (.cons (cimpl_PutTerm_d h444) .nil) ?_
      refine Wc.seq ?_
      refine Wc.seq ?_
      obtain ⟨l409_, h445, h⟩ := obind h
      rcases oif h with ⟨h446, h⟩ | ⟨h446, h⟩
      · refine Wc.region [{}, {}, { r := some (.v (.bool l409_) []) }, {}, { re := some (.bool true) }] [] [2, 3, 6, 7, 8, 9, 10, 11, 53] [2, 3, 6, 8, 9, 10] [] ⟨[(2, (.ptr 2 0, [])), (3, (.ptr 3 0, [])), (6, (.ptr 6 0, [])), (7, (.v (.int .i64 t405_.2), [])), (8, (.ptr 8 0, [])), (9, (.ptr 9 0, [])), (10, (.ptr 10 0, [])), (11, (.v (.int .i64 t408_.2), [])), (53, (.v (.bool true), []))], [(2, .cells [.sl (List.map GCell.c e399_.gCells), .sl (List.map cI.i64 e399_.gTrail)] []), (3, .cells [.int .i64 j400_.gKind, .str j400_.gName, .int .i64 j400_.gNum, .sl (List.map GTerm.c j400_.gKids)] []), (6, .cells [.sl (List.map GCell.c t405_.1.gCells), .sl (List.map cI.i64 t405_.1.gTrail)] []), (8, .cells [.slx, .slx] [(0, .ex 139 true (List.map GCell.c e406_.gCells)), (1, .ex 3 true (List.map cI.i64 e406_.gTrail))]), (9, .cells [.int .i64 j407_.gKind, .str j407_.gName, .int .i64 j407_.gNum, .slx] [(3, .ex 42 true (List.map GTerm.c j407_.gKids))]), (10, .cells [.slx, .slx] [(0, .ex 139 true (List.map GCell.c t408_.1.gCells)), (1, .ex 3 true (List.map cI.i64 t408_.1.gTrail))])], []⟩ _ (by kernel_rfl) (.cons (claws_eqHeap h445) (.cons (congrArg AV.bool h446) .nil)) ?_
        refine Wc.condT rfl (by kernel_rfl) ?_
        refine Wc.seq ?_
        refine Wc.region [] [] [4] [] [] ⟨[(4, (.v (.bool false), []))], [], []⟩ _ (by kernel_rfl) .nil ?_
        refine Wc.ret ?_
        obtain rfl := Option.some.inj h
        exact ⟨.inl rfl, by kernel_rfl, by kernel_rfl⟩
      · refine Wc.region [{}, {}, { r := some (.v (.bool l409_) []) }, {}, { re := some (.bool false) }] [] [2, 3, 6, 7, 8, 9, 10, 11, 53] [2, 3, 6, 8, 9, 10] [] ⟨[(2, (.ptr 2 0, [])), (3, (.ptr 3 0, [])), (6, (.ptr 6 0, [])), (7, (.v (.int .i64 t405_.2), [])), (8, (.ptr 8 0, [])), (9, (.ptr 9 0, [])), (10, (.ptr 10 0, [])), (11, (.v (.int .i64 t408_.2), [])), (53, (.v (.bool (t408_.2 != t405_.2)), []))], [(2, .cells [.sl (List.map GCell.c e399_.gCells), .sl (List.map cI.i64 e399_.gTrail)] []), (3, .cells [.int .i64 j400_.gKind, .str j400_.gName, .int .i64 j400_.gNum, .sl (List.map GTerm.c j400_.gKids)] []), (6, .cells [.sl (List.map GCell.c t405_.1.gCells), .sl (List.map cI.i64 t405_.1.gTrail)] []), (8, .cells [.slx, .slx] [(0, .ex 139 true (List.map GCell.c e406_.gCells)), (1, .ex 3 true (List.map cI.i64 e406_.gTrail))]), (9, .cells [.int .i64 j407_.gKind, .str j407_.gName, .int .i64 j407_.gNum, .slx] [(3, .ex 42 true (List.map GTerm.c j407_.gKids))]), (10, .cells [.slx, .slx] [(0, .ex 139 true (List.map GCell.c t408_.1.gCells)), (1, .ex 3 true (List.map cI.i64 t408_.1.gTrail))])], []⟩ _ (by kernel_rfl) (.cons (claws_eqHeap h445) (.cons (congrArg AV.bool h446) .nil)) ?_
        rcases oif h with ⟨h447, h⟩ | ⟨h447, h⟩
        · refine Wc.condT h447 (by kernel_rfl) ?_
          refine Wc.seq ?_
          refine Wc.region [] [] [4] [] [] ⟨[(4, (.v (.bool false), []))], [], []⟩ _ (by kernel_rfl) .nil ?_
          refine Wc.ret ?_
          obtain rfl := Option.some.inj h
          exact ⟨.inl rfl, by kernel_rfl, by kernel_rfl⟩
        · refine Wc.condF h447 (by kernel_rfl) ?_
          refine Wc.fix (st' := ⟨[(2, (.ptr 2 0, [])), (3, (.ptr 3 0, [])), (6, (.ptr 6 0, [])), (7, (.v (.int .i64 t405_.2), [])), (8, (.ptr 8 0, [])), (9, (.ptr 9 0, [])), (10, (.ptr 10 0, [])), (11, (.v (.int .i64 t408_.2), []))], [(2, .cells [.sl (List.map GCell.c e399_.gCells), .sl (List.map cI.i64 e399_.gTrail)] []), (3, .cells [.int .i64 j400_.gKind, .str j400_.gName, .int .i64 j400_.gNum, .sl (List.map GTerm.c j400_.gKids)] []), (6, .cells [.sl (List.map GCell.c t405_.1.gCells), .sl (List.map cI.i64 t405_.1.gTrail)] []), (8, .cells [.slx, .slx] [(0, .ex 139 true (List.map GCell.c e406_.gCells)), (1, .ex 3 true (List.map cI.i64 e406_.gTrail))]), (9, .cells [.int .i64 j407_.gKind, .str j407_.gName, .int .i64 j407_.gNum, .slx] [(3, .ex 42 true (List.map GTerm.c j407_.gKids))]), (10, .cells [.slx, .slx] [(0, .ex 139 true (List.map GCell.c t408_.1.gCells)), (1, .ex 3 true (List.map cI.i64 t408_.1.gTrail))])], []⟩) [] [2, 3, 6, 7, 8, 9, 10, 11] [2, 3, 6, 8, 9, 10] [] (by kernel_rfl) ?_
          refine Wc.skip ?_
          refine Wc.seq ?_
          refine Wc.seq ?_
          obtain ⟨e410_, h448, h⟩ := obind h
          obtain ⟨l411_, h449, h⟩ := obind h
          refine Wc.draw hmix [{}, {}, { r := some (.v (.agg [.sl (List.map GCell.c e410_.gCells), .sl (List.map cI.i64 e410_.gTrail)]) []) }, { r := some (.v (.bool l411_) []) }] [] [2, 3, 6, 7, 8, 9, 10, 11, 58] [2, 3, 6, 8, 9, 10] [] ⟨[(2, (.ptr 2 0, [])), (3, (.ptr 3 0, [])), (6, (.ptr 6 0, [])), (7, (.v (.int .i64 t405_.2), [])), (8, (.ptr 8 0, [])), (9, (.ptr 9 0, [])), (10, (.ptr 10 0, [])), (11, (.v (.int .i64 t408_.2), [])), (58, (.v (.bool (!l411_)), []))], [(2, .cells [.sl (List.map GCell.c e399_.gCells), .sl (List.map cI.i64 e399_.gTrail)] []), (3, .cells [.int .i64 j400_.gKind, .str j400_.gName, .int .i64 j400_.gNum, .sl (List.map GTerm.c j400_.gKids)] []), (6, .cells [.sl (List.map GCell.c t405_.1.gCells), .sl (List.map cI.i64 t405_.1.gTrail)] []), (8, .cells [.slx, .slx] [(0, .ex 139 true (List.map GCell.c e406_.gCells)), (1, .ex 3 true (List.map cI.i64 e406_.gTrail))]), (9, .cells [.int .i64 j407_.gKind, .str j407_.gName, .int .i64 j407_.gNum, .slx] [(3, .ex 42 true (List.map GTerm.c j407_.gKids))]), (10, .cells [.slx, .slx] [(0, .ex 139 true (List.map GCell.c t408_.1.gCells)), (1, .ex 3 true (List.map cI.i64 t408_.1.gTrail))])], []⟩ _ (by kernel_rfl) (fun X => by kernel_rfl) (.cons (claws_toHeap h448) (.cons (claws_eqHeap h449) .nil)) ?_
          rcases oif h with ⟨h450, h⟩ | ⟨h450, h⟩
          · refine Wc.condT h450 (by kernel_rfl) ?_
            refine Wc.seq ?_
            refine Wc.region [] [] [4] [] [] ⟨[(4, (.v (.bool false), []))], [], []⟩ _ (by kernel_rfl) .nil ?_
            refine Wc.ret ?_
            obtain rfl := Option.some.inj h
            exact ⟨.inl rfl, by kernel_rfl, by kernel_rfl⟩
          · refine Wc.condF h450 (by kernel_rfl) ?_
            refine Wc.fix (st' := ⟨[(2, (.ptr 2 0, [])), (3, (.ptr 3 0, [])), (6, (.ptr 6 0, [])), (7, (.v (.int .i64 t405_.2), [])), (8, (.ptr 8 0, [])), (9, (.ptr 9 0, [])), (10, (.ptr 10 0, [])), (11, (.v (.int .i64 t408_.2), []))], [(2, .cells [.sl (List.map GCell.c e399_.gCells), .sl (List.map cI.i64 e399_.gTrail)] []), (3, .cells [.int .i64 j400_.gKind, .str j400_.gName, .int .i64 j400_.gNum, .sl (List.map GTerm.c j400_.gKids)] []), (6, .cells [.sl (List.map GCell.c t405_.1.gCells), .sl (List.map cI.i64 t405_.1.gTrail)] []), (8, .cells [.slx, .slx] [(0, .ex 139 true (List.map GCell.c e406_.gCells)), (1, .ex 3 true (List.map cI.i64 e406_.gTrail))]), (9, .cells [.int .i64 j407_.gKind, .str j407_.gName, .int .i64 j407_.gNum, .slx] [(3, .ex 42 true (List.map GTerm.c j407_.gKids))]), (10, .cells [.slx, .slx] [(0, .ex 139 true (List.map GCell.c t408_.1.gCells)), (1, .ex 3 true (List.map cI.i64 t408_.1.gTrail))])], []⟩) [] [2, 3, 6, 7, 8, 9, 10, 11] [2, 3, 6, 8, 9, 10] [] (by kernel_rfl) ?_
            refine Wc.skip ?_
            refine Wc.seq ?_
            refine Wc.seq ?_
            obtain ⟨j412_, h451, h⟩ := obind h
            obtain ⟨l413_, h452, h⟩ := obind h
            refine Wc.draw hmix [{}, {}, { r := some (.v (.agg [.int .i64 j412_.gKind, .str j412_.gName, .int .i64 j412_.gNum, .sl (List.map GTerm.c j412_.gKids)]) []) }, { r := some (.v (.bool l413_) []) }] [] [2, 3, 6, 7, 8, 9, 10, 11, 63] [2, 3, 6, 8, 9, 10] [] ⟨[(2, (.ptr 2 0, [])), (3, (.ptr 3 0, [])), (6, (.ptr 6 0, [])), (7, (.v (.int .i64 t405_.2), [])), (8, (.ptr 8 0, [])), (9, (.ptr 9 0, [])), (10, (.ptr 10 0, [])), (11, (.v (.int .i64 t408_.2), [])), (63, (.v (.bool (!l413_)), []))], [(2, .cells [.sl (List.map GCell.c e399_.gCells), .sl (List.map cI.i64 e399_.gTrail)] []), (3, .cells [.int .i64 j400_.gKind, .str j400_.gName, .int .i64 j400_.gNum, .sl (List.map GTerm.c j400_.gKids)] []), (6, .cells [.sl (List.map GCell.c t405_.1.gCells), .sl (List.map cI.i64 t405_.1.gTrail)] []), (8, .cells [.slx, .slx] [(0, .ex 139 true (List.map GCell.c e406_.gCells)), (1, .ex 3 true (List.map cI.i64 e406_.gTrail))]), (9, .cells [.int .i64 j407_.gKind, .str j407_.gName, .int .i64 j407_.gNum, .slx] [(3, .ex 42 true (List.map GTerm.c j407_.gKids))]), (10, .cells [.slx, .slx] [(0, .ex 139 true (List.map GCell.c t408_.1.gCells)), (1, .ex 3 true (List.map cI.i64 t408_.1.gTrail))])], []⟩ _ (by kernel_rfl) (fun X => by kernel_rfl) (.cons (claws_toTerm h451) (.cons (claws_eqTerm h452) .nil)) ?_
            rcases oif h with ⟨h453, h⟩ | ⟨h453, h⟩
            · refine Wc.condT h453 (by kernel_rfl) ?_
              refine Wc.seq ?_
              refine Wc.region [] [] [4] [] [] ⟨[(4, (.v (.bool false), []))], [], []⟩ _ (by kernel_rfl) .nil ?_
              refine Wc.ret ?_
              obtain rfl := Option.some.inj h
              exact ⟨.inl rfl, by kernel_rfl, by kernel_rfl⟩
            · refine Wc.condF h453 (by kernel_rfl) ?_
              refine Wc.fix (st' := ⟨[(2, (.ptr 2 0, [])), (3, (.ptr 3 0, [])), (6, (.ptr 6 0, [])), (7, (.v (.int .i64 t405_.2), [])), (8, (.ptr 8 0, [])), (9, (.ptr 9 0, [])), (10, (.ptr 10 0, [])), (11, (.v (.int .i64 t408_.2), []))], [(2, .cells [.sl (List.map GCell.c e399_.gCells), .sl (List.map cI.i64 e399_.gTrail)] []), (3, .cells [.int .i64 j400_.gKind, .str j400_.gName, .int .i64 j400_.gNum, .sl (List.map GTerm.c j400_.gKids)] []), (6, .cells [.sl (List.map GCell.c t405_.1.gCells), .sl (List.map cI.i64 t405_.1.gTrail)] []), (8, .cells [.slx, .slx] [(0, .ex 139 true (List.map GCell.c e406_.gCells)), (1, .ex 3 true (List.map cI.i64 e406_.gTrail))]), (9, .cells [.int .i64 j407_.gKind, .str j407_.gName, .int .i64 j407_.gNum, .slx] [(3, .ex 42 true (List.map GTerm.c j407_.gKids))]), (10, .cells [.slx, .slx] [(0, .ex 139 true (List.map GCell.c t408_.1.gCells)), (1, .ex 3 true (List.map cI.i64 t408_.1.gTrail))])], []⟩) [] [2, 3, 6, 7, 8, 9, 10, 11] [2, 3, 6, 8, 9, 10] [] (by kernel_rfl) ?_
              refine Wc.skip ?_
              refine Wc.seq ?_
              refine Wc.region [] [] [2, 3, 6, 7, 8, 9, 10, 11, 12] [2, 3, 6, 8, 9, 10] [] ⟨[(2, (.ptr 2 0, [])), (3, (.ptr 3 0, [])), (6, (.ptr 6 0, [])), (7, (.v (.int .i64 t405_.2), [])), (8, (.ptr 8 0, [])), (9, (.ptr 9 0, [])), (10, (.ptr 10 0, [])), (11, (.v (.int .i64 t408_.2), [])), (12, (.v (.int .i64 1), []))], [(2, .cells [.sl (List.map GCell.c e399_.gCells), .sl (List.map cI.i64 e399_.gTrail)] []), (3, .cells [.int .i64 j400_.gKind, .str j400_.gName, .int .i64 j400_.gNum, .sl (List.map GTerm.c j400_.gKids)] []), (6, .cells [.sl (List.map GCell.c t405_.1.gCells), .sl (List.map cI.i64 t405_.1.gTrail)] []), (8, .cells [.slx, .slx] [(0, .ex 139 true (List.map GCell.c e406_.gCells)), (1, .ex 3 true (List.map cI.i64 e406_.gTrail))]), (9, .cells [.int .i64 j407_.gKind, .str j407_.gName, .int .i64 j407_.gNum, .slx] [(3, .ex 42 true (List.map GTerm.c j407_.gKids))]), (10, .cells [.slx, .slx] [(0, .ex 139 true (List.map GCell.c t408_.1.gCells)), (1, .ex 3 true (List.map cI.i64 t408_.1.gTrail))])], []⟩ _ (by kernel_rfl) .nil ?_
              refine Wc.seq ?_
              obtain ⟨t414_, h454, h⟩ := obind h
              refine Wc.region [{}, {}, { io := [0], r := some (.v (.int .i64 t414_.2) []), outs := [(0, .v .undef [(0, .ex 1000000007 true (List.map GCell.c t414_.1.gCells)), (1, .ex 1000000007 true (List.map cI.i64 t414_.1.gTrail))])] }] [] [2, 3, 6, 7, 9, 10, 11, 12] [2, 3, 6, 9, 10] [] ⟨[(2, (.ptr 2 0, [])), (3, (.ptr 3 0, [])), (6, (.ptr 6 0, [])), (7, (.v (.int .i64 t405_.2), [])), (9, (.ptr 9 0, [])), (10, (.ptr 10 0, [])), (11, (.v (.int .i64 t408_.2), [])), (12, (.v (.int .i64 t414_.2), []))], [(2, .cells [.sl (List.map GCell.c e399_.gCells), .sl (List.map cI.i64 e399_.gTrail)] []), (3, .cells [.int .i64 j400_.gKind, .str j400_.gName, .int .i64 j400_.gNum, .sl (List.map GTerm.c j400_.gKids)] []), (6, .cells [.sl (List.map GCell.c t405_.1.gCells), .sl (List.map cI.i64 t405_.1.gTrail)] []), (9, .cells [.int .i64 j407_.gKind, .str j407_.gName, .int .i64 j407_.gNum, .slx] [(3, .ex 42 true (List.map GTerm.c j407_.gKids))]), (10, .cells [.slx, .slx] [(0, .ex 139 true (List.map GCell.c t408_.1.gCells)), (1, .ex 3 true (List.map cI.i64 t408_.1.gTrail))])], []⟩ _ (by kernel_rfl) (.cons (FnO.any (args := [.io (.agg [.slx, .slx]) [(0, .ex 139 true (List.map GCell.c e406_.gCells)), (1, .ex 3 true (List.map cI.i64 e406_.gTrail))], .v (.int .i64 1) []]) (claws_markHeap h454)) .nil) ?_
              refine Wc.seq ?_
              obtain ⟨w415_, h455, h⟩ := obind h
              refine Wc.region [{}, {}, { io := [0], r := some (.v (.int .i64 w415_.2) []), outs := [(0, .v .undef [(3, .ex 1000000007 true (List.map GTerm.c w415_.1.gKids))])] }] [] [2, 3, 6, 7, 10, 11, 12] [2, 3, 6, 10] [] ⟨[(2, (.ptr 2 0, [])), (3, (.ptr 3 0, [])), (6, (.ptr 6 0, [])), (7, (.v (.int .i64 t405_.2), [])), (10, (.ptr 10 0, [])), (11, (.v (.int .i64 t408_.2), [])), (12, (.v (.int .i64 w415_.2), []))], [(2, .cells [.sl (List.map GCell.c e399_.gCells), .sl (List.map cI.i64 e399_.gTrail)] []), (3, .cells [.int .i64 j400_.gKind, .str j400_.gName, .int .i64 j400_.gNum, .sl (List.map GTerm.c j400_.gKids)] []), (6, .cells [.sl (List.map GCell.c t405_.1.gCells), .sl (List.map cI.i64 t405_.1.gTrail)] []), (10, .cells [.slx, .slx] [(0, .ex 139 true (List.map GCell.c t408_.1.gCells)), (1, .ex 3 true (List.map cI.i64 t408_.1.gTrail))])], []⟩ _ (by kernel_rfl) (.cons (FnO.any (args := [.io (.agg [.int .i64 j407_.gKind, .str j407_.gName, .int .i64 j407_.gNum, .slx]) [(3, .ex 42 true (List.map GTerm.c j407_.gKids))], .v (.int .i64 t414_.2) []]) (claws_markTerm h455)) .nil) ?_
              refine Wc.seq ?_
              refine Wc.seq ?_
              rcases oif h with ⟨h456, h⟩ | ⟨h456, h⟩
              · refine Wc.region [{}, {}, { re := some (.bool true) }] [] [2, 3, 6, 7, 10, 82] [2, 3, 6, 10] [] ⟨[(2, (.ptr 2 0, [])), (3, (.ptr 3 0, [])), (6, (.ptr 6 0, [])), (7, (.v (.int .i64 t405_.2), [])), (10, (.ptr 10 0, [])), (82, (.v (.bool true), []))], [(2, .cells [.sl (List.map GCell.c e399_.gCells), .sl (List.map cI.i64 e399_.gTrail)] []), (3, .cells [.int .i64 j400_.gKind, .str j400_.gName, .int .i64 j400_.gNum, .sl (List.map GTerm.c j400_.gKids)] []), (6, .cells [.sl (List.map GCell.c t405_.1.gCells), .sl (List.map cI.i64 t405_.1.gTrail)] []), (10, .cells [.slx, .slx] [(0, .ex 139 true (List.map GCell.c t408_.1.gCells)), (1, .ex 3 true (List.map cI.i64 t408_.1.gTrail))])], []⟩ _ (by kernel_rfl) (.cons (congrArg AV.bool h456) .nil) ?_
                refine Wc.condT rfl (by kernel_rfl) ?_
                refine Wc.seq ?_
                refine Wc.region [] [] [4] [] [] ⟨[(4, (.v (.bool false), []))], [], []⟩ _ (by kernel_rfl) .nil ?_
                refine Wc.ret ?_
                obtain rfl := Option.some.inj h
                exact ⟨.inl rfl, by kernel_rfl, by kernel_rfl⟩
              · obtain ⟨l416_, h457, h⟩ := obind h
                rcases oif h with ⟨h458, h⟩ | ⟨h458, h⟩
                · refine Wc.region [{}, {}, { re := some (.bool false) }, {}, {}, { r := some (.v (.bool l416_) []) }, {}, {}, { re := some (.bool true) }] [] [2, 3, 6, 7, 10, 82] [2, 3, 6, 10] [] ⟨[(2, (.ptr 2 0, [])), (3, (.ptr 3 0, [])), (6, (.ptr 6 0, [])), (7, (.v (.int .i64 t405_.2), [])), (10, (.ptr 10 0, [])), (82, (.v (.bool true), []))], [(2, .cells [.sl (List.map GCell.c e399_.gCells), .sl (List.map cI.i64 e399_.gTrail)] []), (3, .cells [.int .i64 j400_.gKind, .str j400_.gName, .int .i64 j400_.gNum, .sl (List.map GTerm.c j400_.gKids)] []), (6, .cells [.sl (List.map GCell.c t405_.1.gCells), .sl (List.map cI.i64 t405_.1.gTrail)] []), (10, .cells [.slx, .slx] [(0, .ex 139 true (List.map GCell.c t408_.1.gCells)), (1, .ex 3 true (List.map cI.i64 t408_.1.gTrail))])], []⟩ _ (by kernel_rfl) (.cons (congrArg AV.bool h456) (.cons (claws_eqHeap h457) (.cons (congrArg AV.bool h458) .nil))) ?_
                  refine Wc.condT rfl (by kernel_rfl) ?_
                  refine Wc.seq ?_
                  refine Wc.region [] [] [4] [] [] ⟨[(4, (.v (.bool false), []))], [], []⟩ _ (by kernel_rfl) .nil ?_
                  refine Wc.ret ?_
                  obtain rfl := Option.some.inj h
                  exact ⟨.inl rfl, by kernel_rfl, by kernel_rfl⟩
                · refine Wc.region [{}, {}, { re := some (.bool false) }, {}, {}, { r := some (.v (.bool l416_) []) }, {}, {}, { re := some (.bool false) }] [] [2, 3, 6, 7, 10, 82] [2, 3, 6, 10] [] ⟨[(2, (.ptr 2 0, [])), (3, (.ptr 3 0, [])), (6, (.ptr 6 0, [])), (7, (.v (.int .i64 t405_.2), [])), (10, (.ptr 10 0, [])), (82, (.v (.bool (t408_.2 != t405_.2)), []))], [(2, .cells [.sl (List.map GCell.c e399_.gCells), .sl (List.map cI.i64 e399_.gTrail)] []), (3, .cells [.int .i64 j400_.gKind, .str j400_.gName, .int .i64 j400_.gNum, .sl (List.map GTerm.c j400_.gKids)] []), (6, .cells [.sl (List.map GCell.c t405_.1.gCells), .sl (List.map cI.i64 t405_.1.gTrail)] []), (10, .cells [.slx, .slx] [(0, .ex 139 true (List.map GCell.c t408_.1.gCells)), (1, .ex 3 true (List.map cI.i64 t408_.1.gTrail))])], []⟩ _ (by kernel_rfl) (.cons (congrArg AV.bool h456) (.cons (claws_eqHeap h457) (.cons (congrArg AV.bool h458) .nil))) ?_
                  rcases oif h with ⟨h459, h⟩ | ⟨h459, h⟩
                  · refine Wc.condT h459 (by kernel_rfl) ?_
                    refine Wc.seq ?_
                    refine Wc.region [] [] [4] [] [] ⟨[(4, (.v (.bool false), []))], [], []⟩ _ (by kernel_rfl) .nil ?_
                    refine Wc.ret ?_
                    obtain rfl := Option.some.inj h
                    exact ⟨.inl rfl, by kernel_rfl, by kernel_rfl⟩
                  · refine Wc.condF h459 (by kernel_rfl) ?_
                    refine Wc.fix (st' := ⟨[(2, (.ptr 2 0, [])), (3, (.ptr 3 0, [])), (6, (.ptr 6 0, [])), (7, (.v (.int .i64 t405_.2), [])), (10, (.ptr 10 0, []))], [(2, .cells [.sl (List.map GCell.c e399_.gCells), .sl (List.map cI.i64 e399_.gTrail)] []), (3, .cells [.int .i64 j400_.gKind, .str j400_.gName, .int .i64 j400_.gNum, .sl (List.map GTerm.c j400_.gKids)] []), (6, .cells [.sl (List.map GCell.c t405_.1.gCells), .sl (List.map cI.i64 t405_.1.gTrail)] []), (10, .cells [.slx, .slx] [(0, .ex 139 true (List.map GCell.c t408_.1.gCells)), (1, .ex 3 true (List.map cI.i64 t408_.1.gTrail))])], []⟩) [] [2, 3, 6, 7, 10] [2, 3, 6, 10] [] (by kernel_rfl) ?_
                    refine Wc.skip ?_
                    refine Wc.seq ?_
                    refine Wc.region [] [] [2, 3, 6, 7, 10, 13] [2, 3, 6, 10] [] ⟨[(2, (.ptr 2 0, [])), (3, (.ptr 3 0, [])), (6, (.ptr 6 0, [])), (7, (.v (.int .i64 t405_.2), [])), (10, (.ptr 10 0, [])), (13, (.v (.int .i64 1), []))], [(2, .cells [.sl (List.map GCell.c e399_.gCells), .sl (List.map cI.i64 e399_.gTrail)] []), (3, .cells [.int .i64 j400_.gKind, .str j400_.gName, .int .i64 j400_.gNum, .sl (List.map GTerm.c j400_.gKids)] []), (6, .cells [.sl (List.map GCell.c t405_.1.gCells), .sl (List.map cI.i64 t405_.1.gTrail)] []), (10, .cells [.slx, .slx] [(0, .ex 139 true (List.map GCell.c t408_.1.gCells)), (1, .ex 3 true (List.map cI.i64 t408_.1.gTrail))])], []⟩ _ (by kernel_rfl) .nil ?_
                    refine Wc.seq ?_
                    obtain ⟨t417_, h460, h⟩ := obind h
                    refine Wc.region [{}, {}, { io := [0], r := some (.v (.int .i64 t417_.2) []), outs := [(0, .v .undef [(0, .ex 1000000007 true (List.map GCell.c t417_.1.gCells)), (1, .ex 1000000007 true (List.map cI.i64 t417_.1.gTrail))])] }] [] [2, 3, 6, 7, 10, 13] [2, 3, 6, 10] [] ⟨[(2, (.ptr 2 0, [])), (3, (.ptr 3 0, [])), (6, (.ptr 6 0, [])), (7, (.v (.int .i64 t405_.2), [])), (10, (.ptr 10 0, [])), (13, (.v (.int .i64 t417_.2), []))], [(2, .cells [.sl (List.map GCell.c e399_.gCells), .sl (List.map cI.i64 e399_.gTrail)] []), (3, .cells [.int .i64 j400_.gKind, .str j400_.gName, .int .i64 j400_.gNum, .sl (List.map GTerm.c j400_.gKids)] []), (6, .cells [.sl (List.map GCell.c t405_.1.gCells), .sl (List.map cI.i64 t405_.1.gTrail)] []), (10, .cells [.slx, .slx] [(0, .ex 1000000007 true (List.map GCell.c t417_.1.gCells)), (1, .ex 1000000007 true (List.map cI.i64 t417_.1.gTrail))])], []⟩ _ (by kernel_rfl) (.cons (FnO.any (args := [.io (.agg [.slx, .slx]) [(0, .ex 139 true (List.map GCell.c t408_.1.gCells)), (1, .ex 3 true (List.map cI.i64 t408_.1.gTrail))], .v (.int .i64 1) []]) (claws_markHeap h460)) .nil) ?_
                    refine Wc.seq ?_
                    refine Wc.region [] [] [2, 3, 6, 7, 10, 13, 14] [2, 3, 6, 10] [] ⟨[(2, (.ptr 2 0, [])), (3, (.ptr 3 0, [])), (6, (.ptr 6 0, [])), (7, (.v (.int .i64 t405_.2), [])), (10, (.ptr 10 0, [])), (13, (.v (.int .i64 t417_.2), [])), (14, (.v (.int .i64 1), []))], [(2, .cells [.sl (List.map GCell.c e399_.gCells), .sl (List.map cI.i64 e399_.gTrail)] []), (3, .cells [.int .i64 j400_.gKind, .str j400_.gName, .int .i64 j400_.gNum, .sl (List.map GTerm.c j400_.gKids)] []), (6, .cells [.sl (List.map GCell.c t405_.1.gCells), .sl (List.map cI.i64 t405_.1.gTrail)] []), (10, .cells [.slx, .slx] [(0, .ex 1000000007 true (List.map GCell.c t417_.1.gCells)), (1, .ex 1000000007 true (List.map cI.i64 t417_.1.gTrail))])], []⟩ _ (by kernel_rfl) .nil ?_
                    refine Wc.seq ?_
                    obtain ⟨b418_, h461, h⟩ := obind h
                    refine Wc.region [{}, {}, { r := some (.v (.int .i64 b418_) []) }] [] [2, 3, 6, 7, 10, 13, 14] [2, 3, 6, 10] [] ⟨[(2, (.ptr 2 0, [])), (3, (.ptr 3 0, [])), (6, (.ptr 6 0, [])), (7, (.v (.int .i64 t405_.2), [])), (10, (.ptr 10 0, [])), (13, (.v (.int .i64 t417_.2), [])), (14, (.v (.int .i64 b418_), []))], [(2, .cells [.sl (List.map GCell.c e399_.gCells), .sl (List.map cI.i64 e399_.gTrail)] []), (3, .cells [.int .i64 j400_.gKind, .str j400_.gName, .int .i64 j400_.gNum, .sl (List.map GTerm.c j400_.gKids)] []), (6, .cells [.sl (List.map GCell.c t405_.1.gCells), .sl (List.map cI.i64 t405_.1.gTrail)] []), (10, .cells [.slx, .slx] [(0, .ex 1000000007 true (List.map GCell.c t417_.1.gCells)), (1, .ex 1000000007 true (List.map cI.i64 t417_.1.gTrail))])], []⟩ _ (by kernel_rfl) (.cons (claws_heldHeap h461) .nil) ?_
                    refine Wc.seq ?_
                    refine Wc.seq ?_
                    refine Wc.region [] [] [2, 3, 6, 7, 10, 13, 14, 90] [2, 3, 6, 10] [] ⟨[(2, (.ptr 2 0, [])), (3, (.ptr 3 0, [])), (6, (.ptr 6 0, [])), (7, (.v (.int .i64 t405_.2), [])), (10, (.ptr 10 0, [])), (13, (.v (.int .i64 t417_.2), [])), (14, (.v (.int .i64 b418_), [])), (90, (.v (.bool (decide (b418_ < 0))), []))], [(2, .cells [.sl (List.map GCell.c e399_.gCells), .sl (List.map cI.i64 e399_.gTrail)] []), (3, .cells [.int .i64 j400_.gKind, .str j400_.gName, .int .i64 j400_.gNum, .sl (List.map GTerm.c j400_.gKids)] []), (6, .cells [.sl (List.map GCell.c t405_.1.gCells), .sl (List.map cI.i64 t405_.1.gTrail)] []), (10, .cells [.slx, .slx] [(0, .ex 1000000007 true (List.map GCell.c t417_.1.gCells)), (1, .ex 1000000007 true (List.map cI.i64 t417_.1.gTrail))])], []⟩ _ (by kernel_rfl) .nil ?_
                    rcases oif h with ⟨h462, h⟩ | ⟨h462, h⟩
                    · refine Wc.condT h462 (by kernel_rfl) ?_
                      refine Wc.seq ?_
                      refine Wc.region [] [] [4] [] [] ⟨[(4, (.v (.bool false), []))], [], []⟩ _ (by kernel_rfl) .nil ?_
                      refine Wc.ret ?_
                      obtain rfl := Option.some.inj h
                      exact ⟨.inl rfl, by kernel_rfl, by kernel_rfl⟩
                    · refine Wc.condF h462 (by kernel_rfl) ?_
                      refine Wc.fix (st' := ⟨[(2, (.ptr 2 0, [])), (3, (.ptr 3 0, [])), (6, (.ptr 6 0, [])), (7, (.v (.int .i64 t405_.2), [])), (10, (.ptr 10 0, [])), (13, (.v (.int .i64 t417_.2), [])), (14, (.v (.int .i64 b418_), []))], [(2, .cells [.sl (List.map GCell.c e399_.gCells), .sl (List.map cI.i64 e399_.gTrail)] []), (3, .cells [.int .i64 j400_.gKind, .str j400_.gName, .int .i64 j400_.gNum, .sl (List.map GTerm.c j400_.gKids)] []), (6, .cells [.sl (List.map GCell.c t405_.1.gCells), .sl (List.map cI.i64 t405_.1.gTrail)] []), (10, .cells [.slx, .slx] [(0, .ex 1000000007 true (List.map GCell.c t417_.1.gCells)), (1, .ex 1000000007 true (List.map cI.i64 t417_.1.gTrail))])], []⟩) [] [2, 3, 6, 7, 10, 13, 14] [2, 3, 6, 10] [] (by kernel_rfl) ?_
                      refine Wc.skip ?_
                      refine Wc.seq ?_
                      refine Wc.seq ?_
                      refine Wc.region [] [] [2, 3, 6, 7, 10, 13, 93] [2, 3, 6, 10] [] ⟨[(2, (.ptr 2 0, [])), (3, (.ptr 3 0, [])), (6, (.ptr 6 0, [])), (7, (.v (.int .i64 t405_.2), [])), (10, (.ptr 10 0, [])), (13, (.v (.int .i64 t417_.2), [])), (93, (.v (.bool (b418_ != t417_.2)), []))], [(2, .cells [.sl (List.map GCell.c e399_.gCells), .sl (List.map cI.i64 e399_.gTrail)] []), (3, .cells [.int .i64 j400_.gKind, .str j400_.gName, .int .i64 j400_.gNum, .sl (List.map GTerm.c j400_.gKids)] []), (6, .cells [.sl (List.map GCell.c t405_.1.gCells), .sl (List.map cI.i64 t405_.1.gTrail)] []), (10, .cells [.slx, .slx] [(0, .ex 1000000007 true (List.map GCell.c t417_.1.gCells)), (1, .ex 1000000007 true (List.map cI.i64 t417_.1.gTrail))])], []⟩ _ (by kernel_rfl) .nil ?_
                      rcases oif h with ⟨h463, h⟩ | ⟨h463, h⟩
                      · refine Wc.condT h463 (by kernel_rfl) ?_
                        refine Wc.seq ?_
                        refine Wc.region [] [] [4] [] [] ⟨[(4, (.v (.bool false), []))], [], []⟩ _ (by kernel_rfl) .nil ?_
                        refine Wc.ret ?_
                        obtain rfl := Option.some.inj h
                        exact ⟨.inl rfl, by kernel_rfl, by kernel_rfl⟩
                      · refine Wc.condF h463 (by kernel_rfl) ?_
                        refine Wc.fix (st' := ⟨[(2, (.ptr 2 0, [])), (3, (.ptr 3 0, [])), (6, (.ptr 6 0, [])), (7, (.v (.int .i64 t405_.2), [])), (10, (.ptr 10 0, [])), (13, (.v (.int .i64 t417_.2), []))], [(2, .cells [.sl (List.map GCell.c e399_.gCells), .sl (List.map cI.i64 e399_.gTrail)] []), (3, .cells [.int .i64 j400_.gKind, .str j400_.gName, .int .i64 j400_.gNum, .sl (List.map GTerm.c j400_.gKids)] []), (6, .cells [.sl (List.map GCell.c t405_.1.gCells), .sl (List.map cI.i64 t405_.1.gTrail)] []), (10, .cells [.slx, .slx] [(0, .ex 1000000007 true (List.map GCell.c t417_.1.gCells)), (1, .ex 1000000007 true (List.map cI.i64 t417_.1.gTrail))])], []⟩) [] [2, 3, 6, 7, 10, 13] [2, 3, 6, 10] [] (by kernel_rfl) ?_
                        refine Wc.skip ?_
                        refine Wc.seq ?_
                        obtain ⟨e419_, h464, h⟩ := obind h
                        obtain ⟨j420_, h465, h⟩ := obind h
                        obtain ⟨t421_, h466, h⟩ := obind h
                        refine Wc.draw hmix [{}, { r := some (.v (.agg [.sl (List.map GCell.c e419_.gCells), .sl (List.map cI.i64 e419_.gTrail)]) []) }, {}, { r := some (.v (.agg [.int .i64 j420_.gKind, .str j420_.gName, .int .i64 j420_.gNum, .sl (List.map GTerm.c j420_.gKids)]) []) }, { r := some (.v (.tup [.agg [.sl (List.map GCell.c t421_.1.gCells), .sl (List.map cI.i64 t421_.1.gTrail)], .int .i64 t421_.2]) []) }] [] [6, 7, 10, 13, 15, 16] [6, 10, 15] [] ⟨[(6, (.ptr 6 0, [])), (7, (.v (.int .i64 t405_.2), [])), (10, (.ptr 10 0, [])), (13, (.v (.int .i64 t417_.2), [])), (15, (.ptr 15 0, [])), (16, (.v (.int .i64 t421_.2), []))], [(6, .cells [.sl (List.map GCell.c t405_.1.gCells), .sl (List.map cI.i64 t405_.1.gTrail)] []), (10, .cells [.slx, .slx] [(0, .ex 1000000007 true (List.map GCell.c t417_.1.gCells)), (1, .ex 1000000007 true (List.map cI.i64 t417_.1.gTrail))]), (15, .cells [.sl (List.map GCell.c t421_.1.gCells), .sl (List.map cI.i64 t421_.1.gTrail)] [])], []⟩ _ (by kernel_rfl) (fun X => by kernel_rfl) (.cons (claws_toHeap h464) (.cons (claws_toTerm h465) (.cons (cimpl_PutTerm h466) .nil))) ?_
                        refine Wc.seq ?_
                        refine Wc.seq ?_
                        obtain ⟨l422_, h467, h⟩ := obind h
                        rcases oif h with ⟨h468, h⟩ | ⟨h468, h⟩
                        · refine Wc.region [{}, {}, { r := some (.v (.bool l422_) []) }, {}, { re := some (.bool true) }] [] [10, 13, 110] [10] [] ⟨[(10, (.ptr 10 0, [])), (13, (.v (.int .i64 t417_.2), [])), (110, (.v (.bool true), []))], [(10, .cells [.slx, .slx] [(0, .ex 1000000007 true (List.map GCell.c t417_.1.gCells)), (1, .ex 1000000007 true (List.map cI.i64 t417_.1.gTrail))])], []⟩ _ (by kernel_rfl) (.cons (claws_eqHeap h467) (.cons (congrArg AV.bool h468) .nil)) ?_
                          refine Wc.condT rfl (by kernel_rfl) ?_
                          refine Wc.seq ?_
                          refine Wc.region [] [] [4] [] [] ⟨[(4, (.v (.bool false), []))], [], []⟩ _ (by kernel_rfl) .nil ?_
                          refine Wc.ret ?_
                          obtain rfl := Option.some.inj h
                          exact ⟨.inl rfl, by kernel_rfl, by kernel_rfl⟩
                        · refine Wc.region [{}, {}, { r := some (.v (.bool l422_) []) }, {}, { re := some (.bool false) }] [] [10, 13, 110] [10] [] ⟨[(10, (.ptr 10 0, [])), (13, (.v (.int .i64 t417_.2), [])), (110, (.v (.bool (t421_.2 != t405_.2)), []))], [(10, .cells [.slx, .slx] [(0, .ex 1000000007 true (List.map GCell.c t417_.1.gCells)), (1, .ex 1000000007 true (List.map cI.i64 t417_.1.gTrail))])], []⟩ _ (by kernel_rfl) (.cons (claws_eqHeap h467) (.cons (congrArg AV.bool h468) .nil)) ?_
                          rcases oif h with ⟨h469, h⟩ | ⟨h469, h⟩
                          · refine Wc.condT h469 (by kernel_rfl) ?_
                            refine Wc.seq ?_
                            refine Wc.region [] [] [4] [] [] ⟨[(4, (.v (.bool false), []))], [], []⟩ _ (by kernel_rfl) .nil ?_
                            refine Wc.ret ?_
                            obtain rfl := Option.some.inj h
                            exact ⟨.inl rfl, by kernel_rfl, by kernel_rfl⟩
                          · refine Wc.condF h469 (by kernel_rfl) ?_
                            refine Wc.fix (st' := ⟨[(10, (.ptr 10 0, [])), (13, (.v (.int .i64 t417_.2), []))], [(10, .cells [.slx, .slx] [(0, .ex 1000000007 true (List.map GCell.c t417_.1.gCells)), (1, .ex 1000000007 true (List.map cI.i64 t417_.1.gTrail))])], []⟩) [] [10, 13] [10] [] (by kernel_rfl) ?_
                            refine Wc.skip ?_
                            refine Wc.seq ?_
                            refine Wc.region [] [] [10, 13, 14] [10] [] ⟨[(10, (.ptr 10 0, [])), (13, (.v (.int .i64 t417_.2), [])), (14, (.v (.int .i64 1), []))], [(10, .cells [.slx, .slx] [(0, .ex 1000000007 true (List.map GCell.c t417_.1.gCells)), (1, .ex 1000000007 true (List.map cI.i64 t417_.1.gTrail))])], []⟩ _ (by kernel_rfl) .nil ?_
                            refine Wc.seq ?_
                            obtain ⟨b423_, h470, h⟩ := obind h
                            refine Wc.region [{}, {}, { r := some (.v (.int .i64 b423_) []) }] [] [13, 14] [] [] ⟨[(13, (.v (.int .i64 t417_.2), [])), (14, (.v (.int .i64 b423_), []))], [], []⟩ _ (by kernel_rfl) (.cons (claws_heldHeap h470) .nil) ?_
                            refine Wc.seq ?_
                            refine Wc.seq ?_
                            refine Wc.region [] [] [13, 14, 115] [] [] ⟨[(13, (.v (.int .i64 t417_.2), [])), (14, (.v (.int .i64 b423_), [])), (115, (.v (.bool (decide (b423_ < 0))), []))], [], []⟩ _ (by kernel_rfl) .nil ?_
                            rcases oif h with ⟨h471, h⟩ | ⟨h471, h⟩
                            · refine Wc.condT h471 (by kernel_rfl) ?_
                              refine Wc.seq ?_
                              refine Wc.region [] [] [4] [] [] ⟨[(4, (.v (.bool false), []))], [], []⟩ _ (by kernel_rfl) .nil ?_
                              refine Wc.ret ?_
                              obtain rfl := Option.some.inj h
                              exact ⟨.inl rfl, by kernel_rfl, by kernel_rfl⟩
                            · refine Wc.condF h471 (by kernel_rfl) ?_
                              refine Wc.fix (st' := ⟨[(13, (.v (.int .i64 t417_.2), [])), (14, (.v (.int .i64 b423_), []))], [], []⟩) [] [13, 14] [] [] (by kernel_rfl) ?_
                              refine Wc.skip ?_
                              refine Wc.seq ?_
                              refine Wc.seq ?_
                              refine Wc.region [] [] [118] [] [] ⟨[(118, (.v (.bool (b423_ != t417_.2)), []))], [], []⟩ _ (by kernel_rfl) .nil ?_
                              rcases oif h with ⟨h472, h⟩ | ⟨h472, h⟩
                              · refine Wc.condT h472 (by kernel_rfl) ?_
                                refine Wc.seq ?_
                                refine Wc.region [] [] [4] [] [] ⟨[(4, (.v (.bool false), []))], [], []⟩ _ (by kernel_rfl) .nil ?_
                                refine Wc.ret ?_
                                obtain rfl := Option.some.inj h
                                exact ⟨.inl rfl, by kernel_rfl, by kernel_rfl⟩
                              · refine Wc.condF h472 (by kernel_rfl) ?_
                                refine Wc.fix (st' := ⟨[], [], []⟩) [] [] [] [] (by kernel_rfl) ?_
                                refine Wc.skip ?_
                                refine Wc.seq ?_
                                refine Wc.region [] [] [4] [] [] ⟨[(4, (.v (.bool true), []))], [], []⟩ _ (by kernel_rfl) .nil ?_
                                refine Wc.ret ?_
                                obtain rfl := Option.some.inj h
                                exact ⟨.inl rfl, by kernel_rfl, by kernel_rfl⟩
end Go.Proofs.Ytgfpmdaihkdhkaa

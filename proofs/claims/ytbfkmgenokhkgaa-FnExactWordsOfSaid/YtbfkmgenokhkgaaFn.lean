/- What the functions do, part 2. -/
import Derived.Test.YtbfkmgenokhkgaaFna
set_option linter.unusedVariables false
set_option linter.unusedSimpArgs false
namespace Go.Proofs.Ytbfkmgenokhkgaa
open Go.RowKit Go.Bv
def plaws_eqIntS_L1 (k : Nat) (l215_ : List Int) (l216_ : List Int) : Nat → Int → Option (Out Bool Unit)
  | 0, _ => none
  | m + 1, b217_ =>
    if (decide (b217_ < (l215_.length : Int))) = true then
      (at' l215_ b217_).bind fun b218_ =>
      (at' l216_ b217_).bind fun b219_ =>
      if (b218_ != b219_) = true then
        some (.ret false)
      else
        plaws_eqIntS_L1 k l215_ l216_ m (wr.i64 (b217_ + 1))
    else
      some (.done ())
/-- laws.eqIntS -/
def plaws_eqIntS (k : Nat) (l215_ : List Int) (l216_ : List Int) : Option Bool :=
  if ((l215_.length : Int) != (l216_.length : Int)) = true then
    some false
  else
    (plaws_eqIntS_L1 k l215_ l216_ k 0).bind fun out1 => match out1 with
    | .ret r => some r
    | .done () =>
      some true
theorem claws_eqIntS {k : Nat} {l215_ : List Int} {l216_ : List Int} {r : Bool} (h : plaws_eqIntS k l215_ l216_ = some r) : FnO Try.prog 32 [.v (.sl (List.map cI.i64 l215_)) [], .v (.sl (List.map cI.i64 l216_)) []] (.v (.bool r) []) [] := by
  refine FnO.of Try.func32 (rfl : Try.f32.body = some _) (Nat.le_of_ble_eq_true (by kernel_rfl)) (Nat.le_of_ble_eq_true (by kernel_rfl)) ?_
  intro w0 X0 Fin pv0 pb
  unfold plaws_eqIntS at h
  refine Wc.seq ?_
  refine Wc.region [] [] [0, 1] [] [] ⟨[(0, (.v (.sl (List.map cI.i64 l215_)), [])), (1, (.v (.sl (List.map cI.i64 l216_)), []))], [], []⟩ _ (by kernel_rfl) .nil ?_
  refine Wc.seq ?_
  refine Wc.seq ?_
  refine Wc.region [{}, { v := some (.int .i64 (l215_.length : Int)) }, {}, { v := some (.int .i64 (l216_.length : Int)) }] [] [0, 1, 10] [] [] ⟨[(0, (.v (.sl (List.map cI.i64 l215_)), [])), (1, (.v (.sl (List.map cI.i64 l216_)), [])), (10, (.v (.bool ((l215_.length : Int) != (l216_.length : Int))), []))], [], []⟩ _ (by kernel_rfl) (.cons (len_obl cI.i64 l215_) (.cons (len_obl cI.i64 l216_) .nil)) ?_
  rcases oif h with ⟨h253, h⟩ | ⟨h253, h⟩
  · refine Wc.condT h253 (by kernel_rfl) ?_
    refine Wc.seq ?_
    refine Wc.region [] [] [4] [] [] ⟨[(4, (.v (.bool false), []))], [], []⟩ _ (by kernel_rfl) .nil ?_
    refine Wc.ret ?_
    obtain rfl := Option.some.inj h
    exact ⟨.inl rfl, by kernel_rfl, by kernel_rfl⟩
  · refine Wc.condF h253 (by kernel_rfl) ?_
    refine Wc.fix (st' := ⟨[(0, (.v (.sl (List.map cI.i64 l215_)), [])), (1, (.v (.sl (List.map cI.i64 l216_)), []))], [], []⟩) [] [0, 1] [] [] (by kernel_rfl) ?_
    refine Wc.skip ?_
    refine Wc.seq ?_
    refine Wc.seq ?_
    refine Wc.region [] [] [0, 1, 5] [] [] ⟨[(0, (.v (.sl (List.map cI.i64 l215_)), [])), (1, (.v (.sl (List.map cI.i64 l216_)), [])), (5, (.v (.int .i64 0), []))], [], []⟩ _ (by kernel_rfl) .nil ?_
    obtain ⟨out1, h254, h⟩ := obind h
    refine Wc.lastJ (fun st => out1 = .done () ∧ st = ⟨[], [], []⟩) ?_ ?_
    · refine Wc.block ?_
      refine Wc.loop (fun m st => ∃ (b217_ : Int), st = ⟨[(0, (.v (.sl (List.map cI.i64 l215_)), [])), (1, (.v (.sl (List.map cI.i64 l216_)), [])), (5, (.v (.int .i64 b217_), []))], [], []⟩ ∧ plaws_eqIntS_L1 k l215_ l216_ m b217_ = some out1) ?_ k ⟨_, rfl, h254⟩
      rintro m st ⟨b217_, rfl, h254⟩
      cases m with
      | zero => exact (onone h254).elim
      | succ m =>
        refine Wc.seq ?_
        refine Wc.seq ?_
        refine Wc.region [{}, {}, { v := some (.int .i64 (l215_.length : Int)) }] [] [0, 1, 5, 14] [] [] ⟨[(0, (.v (.sl (List.map cI.i64 l215_)), [])), (1, (.v (.sl (List.map cI.i64 l216_)), [])), (5, (.v (.int .i64 b217_), [])), (14, (.v (.bool (decide (b217_ < (l215_.length : Int)))), []))], [], []⟩ _ (by kernel_rfl) (.cons (len_obl cI.i64 l215_) .nil) ?_
        rcases oif h254 with ⟨h255, h254⟩ | ⟨h255, h254⟩
        · refine Wc.condT h255 (by kernel_rfl) ?_
          refine Wc.fix (st' := ⟨[(0, (.v (.sl (List.map cI.i64 l215_)), [])), (1, (.v (.sl (List.map cI.i64 l216_)), [])), (5, (.v (.int .i64 b217_), []))], [], []⟩) [] [0, 1, 5] [] [] (by kernel_rfl) ?_
          refine Wc.skip ?_
          refine Wc.seq ?_
          refine Wc.block ?_
          refine Wc.seq ?_
          obtain ⟨b218_, h256, h254⟩ := obind h254
          obtain ⟨b219_, h257, h254⟩ := obind h254
          refine Wc.draw hmix [{}, {}, { v := some (.vptr [.int .i64 b218_]) }, {}, {}, {}, { v := some (.vptr [.int .i64 b219_]) }] [] [0, 1, 5, 25] [] [] ⟨[(0, (.v (.sl (List.map cI.i64 l215_)), [])), (1, (.v (.sl (List.map cI.i64 l216_)), [])), (5, (.v (.int .i64 b217_), [])), (25, (.v (.bool (b218_ != b219_)), []))], [], []⟩ _ (by kernel_rfl) (fun X => by kernel_rfl) (.cons (at_obl (c := cI.i64) rfl cI.i64_len h256) (.cons (len_ok 1 [.int .i64 b218_]) (.cons (at_obl (c := cI.i64) rfl cI.i64_len h257) (.cons (len_ok 1 [.int .i64 b219_]) .nil)))) ?_
          rcases oif h254 with ⟨h258, h254⟩ | ⟨h258, h254⟩
          · refine Wc.condT h258 (by kernel_rfl) ?_
            refine Wc.seq ?_
            refine Wc.region [] [] [4] [] [] ⟨[(4, (.v (.bool false), []))], [], []⟩ _ (by kernel_rfl) .nil ?_
            refine Wc.ret ?_
            obtain rfl := Option.some.inj h254
            obtain rfl := Option.some.inj h
            exact ⟨.inl rfl, by kernel_rfl, by kernel_rfl⟩
          · refine Wc.condF h258 (by kernel_rfl) ?_
            refine Wc.fix (st' := ⟨[(0, (.v (.sl (List.map cI.i64 l215_)), [])), (1, (.v (.sl (List.map cI.i64 l216_)), [])), (5, (.v (.int .i64 b217_), []))], [], []⟩) [] [0, 1, 5] [] [] (by kernel_rfl) ?_
            refine Wc.skip ?_
            refine Wc.region [] [] [0, 1, 5] [] [] ⟨[(0, (.v (.sl (List.map cI.i64 l215_)), [])), (1, (.v (.sl (List.map cI.i64 l216_)), [])), (5, (.v (.int .i64 (wr.i64 (b217_ + 1))), []))], [], []⟩ _ (by kernel_rfl) .nil ?_
            exact ⟨_, Nat.lt_succ_self _, _, rfl, h254⟩
        · refine Wc.condF h255 (by kernel_rfl) ?_
          refine Wc.fix (st' := ⟨[], [], []⟩) [] [] [] [] (by kernel_rfl) ?_
          refine Wc.exit ?_
          obtain rfl := Option.some.inj h254
          exact ⟨rfl, rfl⟩
    · rintro st ⟨rfl, rfl⟩
      refine Wc.seq ?_
      refine Wc.region [] [] [4] [] [] ⟨[(4, (.v (.bool true), []))], [], []⟩ _ (by kernel_rfl) .nil ?_
      refine Wc.ret ?_
      obtain rfl := Option.some.inj h
      exact ⟨.inl rfl, by kernel_rfl, by kernel_rfl⟩

def plaws_markIntS_L1 (k : Nat) : Nat → Int → Int → (List Int) → Option (Out ((List Int) × Int) (Int × (List Int)))
  | 0, _, _, _ => none
  | m + 1, b222_, b223_, l224_ =>
    if (decide (b223_ < (l224_.length : Int))) = true then
      (at' l224_ b223_).bind fun b227_ =>
      plaws_markIntS_L1 k m (wr.i64 (b222_ + 1)) (wr.i64 (b223_ + 1)) (l224_.set ((b223_).toNat) b222_)
    else
      some (.done (b222_, l224_))
/-- laws.markIntS -/
def plaws_markIntS (k : Nat) (l220_ : List Int) (b221_ : Int) : Option ((List Int) × Int) :=
  (plaws_markIntS_L1 k k b221_ 0 l220_).bind fun out1 => match out1 with
  | .ret r => some r
  | .done (b225_, l226_) =>
    some (l226_, b225_)
theorem claws_markIntS {k : Nat} {l220_ : List Int} {b221_ : Int} {r : (List Int) × Int} (h : plaws_markIntS k l220_ b221_ = some r) : FnO Try.prog 33 [.io (.slx) [(0, .ex 1000000007 true (List.map cI.i64 l220_))], .v (.int .i64 b221_) []] (.v (.int .i64 r.2) []) [(0, .v .undef [(0, .ex 1000000007 true (List.map cI.i64 r.1))])] := by
  refine FnO.of Try.func33 (rfl : Try.f33.body = some _) (Nat.le_of_ble_eq_true (by kernel_rfl)) (Nat.le_of_ble_eq_true (by kernel_rfl)) ?_
  intro w0 X0 Fin pv0 pb
  unfold plaws_markIntS at h
  refine Wc.seq ?_
  refine Wc.region [] [] [0, 1] [] [0] ⟨[(0, (.v (.slx), [(0, .al (.a 0 0) [])])), (1, (.v (.int .i64 b221_), []))], [], [(0, [(0, .ex 1000000007 true (List.map cI.i64 l220_))])]⟩ _ (by kernel_rfl) .nil ?_
  refine Wc.seq ?_
  refine Wc.seq ?_
  refine Wc.region [] [] [0, 1, 5] [] [0] ⟨[(0, (.v (.slx), [(0, .al (.a 0 0) [])])), (1, (.v (.int .i64 b221_), [])), (5, (.v (.int .i64 0), []))], [], [(0, [(0, .ex 1000000007 true (List.map cI.i64 l220_))])]⟩ _ (by kernel_rfl) .nil ?_
  obtain ⟨out1, h259, h⟩ := obind h
  refine Wc.lastJ (fun st => ∃ (b225_ : Int) (l226_ : List Int), out1 = .done (b225_, l226_) ∧ st = ⟨[(1, (.v (.int .i64 b225_), []))], [], [(0, [(0, .ex 1000000007 true (List.map cI.i64 l226_))])]⟩) ?_ ?_
  · refine Wc.block ?_
    refine Wc.loop (fun m st => ∃ (b222_ : Int) (b223_ : Int) (l224_ : List Int), st = ⟨[(0, (.v (.slx), [(0, .al (.a 0 0) [])])), (1, (.v (.int .i64 b222_), [])), (5, (.v (.int .i64 b223_), []))], [], [(0, [(0, .ex 1000000007 true (List.map cI.i64 l224_))])]⟩ ∧ plaws_markIntS_L1 k m b222_ b223_ l224_ = some out1) ?_ k ⟨_, _, _, rfl, h259⟩
    rintro m st ⟨b222_, b223_, l224_, rfl, h259⟩
    cases m with
    | zero => exact (onone h259).elim
    | succ m =>
      refine Wc.seq ?_
      refine Wc.seq ?_
      refine Wc.region [{}, {}, { v := some (.int .i64 (l224_.length : Int)) }] [] [0, 1, 5, 9] [] [0] ⟨[(0, (.v (.slx), [(0, .al (.a 0 0) [])])), (1, (.v (.int .i64 b222_), [])), (5, (.v (.int .i64 b223_), [])), (9, (.v (.bool (decide (b223_ < (l224_.length : Int)))), []))], [], [(0, [(0, .ex 1000000007 true (List.map cI.i64 l224_))])]⟩ _ (by kernel_rfl) (.cons (len_obl cI.i64 l224_) .nil) ?_
      rcases oif h259 with ⟨h260, h259⟩ | ⟨h260, h259⟩
      · refine Wc.condT h260 (by kernel_rfl) ?_
        refine Wc.fix (st' := ⟨[(0, (.v (.slx), [(0, .al (.a 0 0) [])])), (1, (.v (.int .i64 b222_), [])), (5, (.v (.int .i64 b223_), []))], [], [(0, [(0, .ex 1000000007 true (List.map cI.i64 l224_))])]⟩) [] [0, 1, 5] [] [0] (by kernel_rfl) ?_
        refine Wc.skip ?_
        refine Wc.seq ?_
        refine Wc.block ?_
        refine Wc.seq ?_
        obtain ⟨b227_, h261, h259⟩ := obind h259
        refine Wc.region [{}, {}, {}, {}, { c := some (List.map cI.i64 (l224_.set ((b223_).toNat) b222_)) }] [] [0, 1, 5] [] [0] ⟨[(0, (.v (.slx), [(0, .al (.a 0 0) [])])), (1, (.v (.int .i64 b222_), [])), (5, (.v (.int .i64 b223_), []))], [], [(0, [(0, .ex 1000000007 true (List.map cI.i64 (l224_.set ((b223_).toNat) b222_)))])]⟩ _ (by kernel_rfl) (.cons (ix_obl (c := cI.i64) cI.i64_len h261) (.cons (mod_obl (off := 0) (new := [.int .i64 b222_]) (c := cI.i64) rfl rfl (at'_spec h261).2 rfl) (.cons (st_obl (sz := 1) (off := 0) (s := 1) (c := cI.i64) rfl (at'_spec h261).2 rfl (Nat.le_of_ble_eq_true rfl)) .nil))) ?_
        refine Wc.region [] [] [0, 1, 5] [] [0] ⟨[(0, (.v (.slx), [(0, .al (.a 0 0) [])])), (1, (.v (.int .i64 (wr.i64 (b222_ + 1))), [])), (5, (.v (.int .i64 b223_), []))], [], [(0, [(0, .ex 1000000007 true (List.map cI.i64 (l224_.set ((b223_).toNat) b222_)))])]⟩ _ (by kernel_rfl) .nil ?_
        refine Wc.region [] [] [0, 1, 5] [] [0] ⟨[(0, (.v (.slx), [(0, .al (.a 0 0) [])])), (1, (.v (.int .i64 (wr.i64 (b222_ + 1))), [])), (5, (.v (.int .i64 (wr.i64 (b223_ + 1))), []))], [], [(0, [(0, .ex 1000000007 true (List.map cI.i64 (l224_.set ((b223_).toNat) b222_)))])]⟩ _ (by kernel_rfl) .nil ?_
        exact ⟨_, Nat.lt_succ_self _, _, _, _, rfl, h259⟩
      · refine Wc.condF h260 (by kernel_rfl) ?_
        refine Wc.fix (st' := ⟨[(1, (.v (.int .i64 b222_), []))], [], [(0, [(0, .ex 1000000007 true (List.map cI.i64 l224_))])]⟩) [] [1] [] [0] (by kernel_rfl) ?_
        refine Wc.exit ?_
        obtain rfl := Option.some.inj h259
        exact ⟨_, _, rfl, rfl⟩
  · rintro st ⟨b225_, l226_, rfl, rfl⟩
    refine Wc.seq ?_
    refine Wc.region [] [] [4] [] [0] ⟨[(4, (.v (.int .i64 b225_), []))], [], [(0, [(0, .ex 1000000007 true (List.map cI.i64 l226_))])]⟩ _ (by kernel_rfl) .nil ?_
    refine Wc.ret ?_
    obtain rfl := Option.some.inj h
    exact ⟨.inl rfl, by kernel_rfl, by kernel_rfl⟩

def plaws_heldInsS_L1 (k : Nat) (j228_ : List GIns) : Nat → Int → Int → Option (Out Int Int)
  | 0, _, _ => none
  | m + 1, b230_, b231_ =>
    if (decide (b231_ < (j228_.length : Int))) = true then
      (at' j228_ b231_).bind fun i233_ =>
      if (i233_.gOp != b230_) = true then
        some (.ret (-1))
      else
        (at' j228_ b231_).bind fun i234_ =>
        (plaws_markText k (wr.i64 (b230_ + 1))).bind fun f235_ =>
        if (!(sEq i234_.gName f235_)) = true then
          some (.ret (-1))
        else
          (at' j228_ b231_).bind fun i236_ =>
          if (i236_.gNum != (wr.i64 ((wr.i64 (b230_ + 1)) + 1))) = true then
            some (.ret (-1))
          else
            (at' j228_ b231_).bind fun i237_ =>
            if (i237_.gMany != (wr.i64 ((wr.i64 ((wr.i64 (b230_ + 1)) + 1)) + 1))) = true then
              some (.ret (-1))
            else
              plaws_heldInsS_L1 k j228_ m (wr.i64 ((wr.i64 ((wr.i64 ((wr.i64 (b230_ + 1)) + 1)) + 1)) + 1)) (wr.i64 (b231_ + 1))
    else
      some (.done b230_)
/-- laws.heldInsS -/
def plaws_heldInsS (k : Nat) (j228_ : List GIns) (b229_ : Int) : Option Int :=
  (plaws_heldInsS_L1 k j228_ k b229_ 0).bind fun out1 => match out1 with
  | .ret r => some r
  | .done b232_ =>
    some b232_
theorem claws_heldInsS {k : Nat} {j228_ : List GIns} {b229_ : Int} {r : Int} (h : plaws_heldInsS k j228_ b229_ = some r) : FnO Try.prog 34 [.v (.sl (List.map GIns.c j228_)) [], .v (.int .i64 b229_) []] (.v (.int .i64 r) []) [] := by
  refine FnO.of Try.func34 (rfl : Try.f34.body = some _) (Nat.le_of_ble_eq_true (by kernel_rfl)) (Nat.le_of_ble_eq_true (by kernel_rfl)) ?_
  intro w0 X0 Fin pv0 pb
  unfold plaws_heldInsS at h
  refine Wc.seq ?_
  refine Wc.region [] [] [0, 1] [] [] ⟨[(0, (.v (.sl (List.map GIns.c j228_)), [])), (1, (.v (.int .i64 b229_), []))], [], []⟩ _ (by kernel_rfl) .nil ?_
  refine Wc.seq ?_
  refine Wc.seq ?_
  refine Wc.region [] [] [0, 1, 5] [] [] ⟨[(0, (.v (.sl (List.map GIns.c j228_)), [])), (1, (.v (.int .i64 b229_), [])), (5, (.v (.int .i64 0), []))], [], []⟩ _ (by kernel_rfl) .nil ?_
  obtain ⟨out1, h262, h⟩ := obind h
  refine Wc.lastJ (fun st => ∃ (b232_ : Int), out1 = .done b232_ ∧ st = ⟨[(1, (.v (.int .i64 b232_), []))], [], []⟩) ?_ ?_
  · refine Wc.block ?_
    refine Wc.loop (fun m st => ∃ (b230_ : Int) (b231_ : Int), st = ⟨[(0, (.v (.sl (List.map GIns.c j228_)), [])), (1, (.v (.int .i64 b230_), [])), (5, (.v (.int .i64 b231_), []))], [], []⟩ ∧ plaws_heldInsS_L1 k j228_ m b230_ b231_ = some out1) ?_ k ⟨_, _, rfl, h262⟩
    rintro m st ⟨b230_, b231_, rfl, h262⟩
    cases m with
    | zero => exact (onone h262).elim
    | succ m =>
      refine Wc.seq ?_
      refine Wc.seq ?_
      refine Wc.region [{}, {}, { v := some (.int .i64 (j228_.length : Int)) }] [] [0, 1, 5, 9] [] [] ⟨[(0, (.v (.sl (List.map GIns.c j228_)), [])), (1, (.v (.int .i64 b230_), [])), (5, (.v (.int .i64 b231_), [])), (9, (.v (.bool (decide (b231_ < (j228_.length : Int)))), []))], [], []⟩ _ (by kernel_rfl) (.cons (len_obl GIns.c j228_) .nil) ?_
      rcases oif h262 with ⟨h263, h262⟩ | ⟨h263, h262⟩
      · refine Wc.condT h263 (by kernel_rfl) ?_
        refine Wc.fix (st' := ⟨[(0, (.v (.sl (List.map GIns.c j228_)), [])), (1, (.v (.int .i64 b230_), [])), (5, (.v (.int .i64 b231_), []))], [], []⟩) [] [0, 1, 5] [] [] (by kernel_rfl) ?_
        refine Wc.skip ?_
        refine Wc.seq ?_
        refine Wc.block ?_
        refine Wc.seq ?_
        refine Wc.seq ?_
        obtain ⟨i233_, h264, h262⟩ := obind h262
        refine Wc.region [{}, {}, { v := some (.vptr [.int .i64 i233_.gOp, .str i233_.gName, .int .i64 i233_.gNum, .int .i64 i233_.gMany]) }] [] [0, 1, 5, 18] [] [] ⟨[(0, (.v (.sl (List.map GIns.c j228_)), [])), (1, (.v (.int .i64 b230_), [])), (5, (.v (.int .i64 b231_), [])), (18, (.v (.bool (i233_.gOp != b230_)), []))], [], []⟩ _ (by kernel_rfl) (.cons (at_obl (c := GIns.c) (GIns.c_eq i233_) GIns.c_len h264) (.cons (len_ok 1 [.int .i64 i233_.gOp, .str i233_.gName, .int .i64 i233_.gNum, .int .i64 i233_.gMany]) .nil)) ?_
        rcases oif h262 with ⟨h265, h262⟩ | ⟨h265, h262⟩
        · refine Wc.condT h265 (by kernel_rfl) ?_
          refine Wc.seq ?_
          refine Wc.region [] [] [4] [] [] ⟨[(4, (.v (.int .i64 (-1)), []))], [], []⟩ _ (by kernel_rfl) .nil ?_
          refine Wc.ret ?_
          obtain rfl := Option.some.inj h262
          obtain rfl := Option.some.inj h
          exact ⟨.inl rfl, by kernel_rfl, by kernel_rfl⟩
        · refine Wc.condF h265 (by kernel_rfl) ?_
          refine Wc.fix (st' := ⟨[(0, (.v (.sl (List.map GIns.c j228_)), [])), (1, (.v (.int .i64 b230_), [])), (5, (.v (.int .i64 b231_), []))], [], []⟩) [] [0, 1, 5] [] [] (by kernel_rfl) ?_
          refine Wc.skip ?_
          refine Wc.seq ?_
          refine Wc.region [] [] [0, 1, 5] [] [] ⟨[(0, (.v (.sl (List.map GIns.c j228_)), [])), (1, (.v (.int .i64 (wr.i64 (b230_ + 1))), [])), (5, (.v (.int .i64 b231_), []))], [], []⟩ _ (by kernel_rfl) .nil ?_
          refine Wc.seq ?_
          refine Wc.seq ?_
          obtain ⟨i234_, h266, h262⟩ := obind h262
          obtain ⟨f235_, h267, h262⟩ := obind h262
          refine Wc.draw hmix [{}, {}, { v := some (.vptr [.int .i64 i234_.gOp, .str i234_.gName, .int .i64 i234_.gNum, .int .i64 i234_.gMany]) }, {}, {}, {}, { r := some (.v (.str f235_) []) }] [] [0, 1, 5, 28] [] [] ⟨[(0, (.v (.sl (List.map GIns.c j228_)), [])), (1, (.v (.int .i64 (wr.i64 (b230_ + 1))), [])), (5, (.v (.int .i64 b231_), [])), (28, (.v (.bool (!(sEq i234_.gName f235_))), []))], [], []⟩ _ (by kernel_rfl) (fun X => by kernel_rfl) (.cons (at_obl (c := GIns.c) (GIns.c_eq i234_) GIns.c_len h266) (.cons (len_ok 1 [.str i234_.gName, .int .i64 i234_.gNum, .int .i64 i234_.gMany]) (.cons (claws_markText h267) .nil))) ?_
          rcases oif h262 with ⟨h268, h262⟩ | ⟨h268, h262⟩
          · refine Wc.condT h268 (by kernel_rfl) ?_
            refine Wc.seq ?_
            refine Wc.region [] [] [4] [] [] ⟨[(4, (.v (.int .i64 (-1)), []))], [], []⟩ _ (by kernel_rfl) .nil ?_
            refine Wc.ret ?_
            obtain rfl := Option.some.inj h262
            obtain rfl := Option.some.inj h
            exact ⟨.inl rfl, by kernel_rfl, by kernel_rfl⟩
          · refine Wc.condF h268 (by kernel_rfl) ?_
            refine Wc.fix (st' := ⟨[(0, (.v (.sl (List.map GIns.c j228_)), [])), (1, (.v (.int .i64 (wr.i64 (b230_ + 1))), [])), (5, (.v (.int .i64 b231_), []))], [], []⟩) [] [0, 1, 5] [] [] (by kernel_rfl) ?_
            refine Wc.skip ?_
            refine Wc.seq ?_
            refine Wc.region [] [] [0, 1, 5] [] [] ⟨[(0, (.v (.sl (List.map GIns.c j228_)), [])), (1, (.v (.int .i64 (wr.i64 ((wr.i64 (b230_ + 1)) + 1))), [])), (5, (.v (.int .i64 b231_), []))], [], []⟩ _ (by kernel_rfl) .nil ?_
            refine Wc.seq ?_
            refine Wc.seq ?_
            obtain ⟨i236_, h269, h262⟩ := obind h262
            refine Wc.region [{}, {}, { v := some (.vptr [.int .i64 i236_.gOp, .str i236_.gName, .int .i64 i236_.gNum, .int .i64 i236_.gMany]) }] [] [0, 1, 5, 37] [] [] ⟨[(0, (.v (.sl (List.map GIns.c j228_)), [])), (1, (.v (.int .i64 (wr.i64 ((wr.i64 (b230_ + 1)) + 1))), [])), (5, (.v (.int .i64 b231_), [])), (37, (.v (.bool (i236_.gNum != (wr.i64 ((wr.i64 (b230_ + 1)) + 1)))), []))], [], []⟩ _ (by kernel_rfl) (.cons (at_obl (c := GIns.c) (GIns.c_eq i236_) GIns.c_len h269) (.cons (len_ok 1 [.int .i64 i236_.gNum, .int .i64 i236_.gMany]) .nil)) ?_
            rcases oif h262 with ⟨h270, h262⟩ | ⟨h270, h262⟩
            · refine Wc.condT h270 (by kernel_rfl) ?_
              refine Wc.seq ?_
              refine Wc.region [] [] [4] [] [] ⟨[(4, (.v (.int .i64 (-1)), []))], [], []⟩ _ (by kernel_rfl) .nil ?_
              refine Wc.ret ?_
              obtain rfl := Option.some.inj h262
              obtain rfl := Option.some.inj h
              exact ⟨.inl rfl, by kernel_rfl, by kernel_rfl⟩
            · refine Wc.condF h270 (by kernel_rfl) ?_
              refine Wc.fix (st' := ⟨[(0, (.v (.sl (List.map GIns.c j228_)), [])), (1, (.v (.int .i64 (wr.i64 ((wr.i64 (b230_ + 1)) + 1))), [])), (5, (.v (.int .i64 b231_), []))], [], []⟩) [] [0, 1, 5] [] [] (by kernel_rfl) ?_
              refine Wc.skip ?_
              refine Wc.seq ?_
              refine Wc.region [] [] [0, 1, 5] [] [] ⟨[(0, (.v (.sl (List.map GIns.c j228_)), [])), (1, (.v (.int .i64 (wr.i64 ((wr.i64 ((wr.i64 (b230_ + 1)) + 1)) + 1))), [])), (5, (.v (.int .i64 b231_), []))], [], []⟩ _ (by kernel_rfl) .nil ?_
              refine Wc.seq ?_
              refine Wc.seq ?_
              obtain ⟨i237_, h271, h262⟩ := obind h262
              refine Wc.region [{}, {}, { v := some (.vptr [.int .i64 i237_.gOp, .str i237_.gName, .int .i64 i237_.gNum, .int .i64 i237_.gMany]) }] [] [0, 1, 5, 46] [] [] ⟨[(0, (.v (.sl (List.map GIns.c j228_)), [])), (1, (.v (.int .i64 (wr.i64 ((wr.i64 ((wr.i64 (b230_ + 1)) + 1)) + 1))), [])), (5, (.v (.int .i64 b231_), [])), (46, (.v (.bool (i237_.gMany != (wr.i64 ((wr.i64 ((wr.i64 (b230_ + 1)) + 1)) + 1)))), []))], [], []⟩ _ (by kernel_rfl) (.cons (at_obl (c := GIns.c) (GIns.c_eq i237_) GIns.c_len h271) (.cons (len_ok 1 [.int .i64 i237_.gMany]) .nil)) ?_
              rcases oif h262 with ⟨h272, h262⟩ | ⟨h272, h262⟩
              · refine Wc.condT h272 (by kernel_rfl) ?_
                refine Wc.seq ?_
                refine Wc.region [] [] [4] [] [] ⟨[(4, (.v (.int .i64 (-1)), []))], [], []⟩ _ (by kernel_rfl) .nil ?_
                refine Wc.ret ?_
                obtain rfl := Option.some.inj h262
                obtain rfl := Option.some.inj h
                exact ⟨.inl rfl, by kernel_rfl, by kernel_rfl⟩
              · refine Wc.condF h272 (by kernel_rfl) ?_
                refine Wc.fix (st' := ⟨[(0, (.v (.sl (List.map GIns.c j228_)), [])), (1, (.v (.int .i64 (wr.i64 ((wr.i64 ((wr.i64 (b230_ + 1)) + 1)) + 1))), [])), (5, (.v (.int .i64 b231_), []))], [], []⟩) [] [0, 1, 5] [] [] (by kernel_rfl) ?_
                refine Wc.skip ?_
                refine Wc.region [] [] [0, 1, 5] [] [] ⟨[(0, (.v (.sl (List.map GIns.c j228_)), [])), (1, (.v (.int .i64 (wr.i64 ((wr.i64 ((wr.i64 ((wr.i64 (b230_ + 1)) + 1)) + 1)) + 1))), [])), (5, (.v (.int .i64 b231_), []))], [], []⟩ _ (by kernel_rfl) .nil ?_
                refine Wc.region [] [] [0, 1, 5] [] [] ⟨[(0, (.v (.sl (List.map GIns.c j228_)), [])), (1, (.v (.int .i64 (wr.i64 ((wr.i64 ((wr.i64 ((wr.i64 (b230_ + 1)) + 1)) + 1)) + 1))), [])), (5, (.v (.int .i64 (wr.i64 (b231_ + 1))), []))], [], []⟩ _ (by kernel_rfl) .nil ?_
                exact ⟨_, Nat.lt_succ_self _, _, _, rfl, h262⟩
      · refine Wc.condF h263 (by kernel_rfl) ?_
        refine Wc.fix (st' := ⟨[(1, (.v (.int .i64 b230_), []))], [], []⟩) [] [1] [] [] (by kernel_rfl) ?_
        refine Wc.exit ?_
        obtain rfl := Option.some.inj h262
        exact ⟨_, rfl, rfl⟩
  · rintro st ⟨b232_, rfl, rfl⟩
    refine Wc.seq ?_
    refine Wc.region [] [] [4] [] [] ⟨[(4, (.v (.int .i64 b232_), []))], [], []⟩ _ (by kernel_rfl) .nil ?_
    refine Wc.ret ?_
    obtain rfl := Option.some.inj h
    exact ⟨.inl rfl, by kernel_rfl, by kernel_rfl⟩

def plaws_heldIntS_L1 (k : Nat) (l238_ : List Int) : Nat → Int → Int → Option (Out Int Int)
  | 0, _, _ => none
  | m + 1, b240_, b241_ =>
    if (decide (b241_ < (l238_.length : Int))) = true then
      (at' l238_ b241_).bind fun b243_ =>
      if (b243_ != b240_) = true then
        some (.ret (-1))
      else
        plaws_heldIntS_L1 k l238_ m (wr.i64 (b240_ + 1)) (wr.i64 (b241_ + 1))
    else
      some (.done b240_)
/-- laws.heldIntS -/
def plaws_heldIntS (k : Nat) (l238_ : List Int) (b239_ : Int) : Option Int :=
  (plaws_heldIntS_L1 k l238_ k b239_ 0).bind fun out1 => match out1 with
  | .ret r => some r
  | .done b242_ =>
    some b242_
theorem claws_heldIntS {k : Nat} {l238_ : List Int} {b239_ : Int} {r : Int} (h : plaws_heldIntS k l238_ b239_ = some r) : FnO Try.prog 35 [.v (.sl (List.map cI.i64 l238_)) [], .v (.int .i64 b239_) []] (.v (.int .i64 r) []) [] := by
  refine FnO.of Try.func35 (rfl : Try.f35.body = some _) (Nat.le_of_ble_eq_true (by kernel_rfl)) (Nat.le_of_ble_eq_true (by kernel_rfl)) ?_
  intro w0 X0 Fin pv0 pb
  unfold plaws_heldIntS at h
  refine Wc.seq ?_
  refine Wc.region [] [] [0, 1] [] [] ⟨[(0, (.v (.sl (List.map cI.i64 l238_)), [])), (1, (.v (.int .i64 b239_), []))], [], []⟩ _ (by kernel_rfl) .nil ?_
  refine Wc.seq ?_
  refine Wc.seq ?_
  refine Wc.region [] [] [0, 1, 5] [] [] ⟨[(0, (.v (.sl (List.map cI.i64 l238_)), [])), (1, (.v (.int .i64 b239_), [])), (5, (.v (.int .i64 0), []))], [], []⟩ _ (by kernel_rfl) .nil ?_
  obtain ⟨out1, h273, h⟩ := obind h
  refine Wc.lastJ (fun st => ∃ (b242_ : Int), out1 = .done b242_ ∧ st = ⟨[(1, (.v (.int .i64 b242_), []))], [], []⟩) ?_ ?_
  · refine Wc.block ?_
    refine Wc.loop (fun m st => ∃ (b240_ : Int) (b241_ : Int), st = ⟨[(0, (.v (.sl (List.map cI.i64 l238_)), [])), (1, (.v (.int .i64 b240_), [])), (5, (.v (.int .i64 b241_), []))], [], []⟩ ∧ plaws_heldIntS_L1 k l238_ m b240_ b241_ = some out1) ?_ k ⟨_, _, rfl, h273⟩
    rintro m st ⟨b240_, b241_, rfl, h273⟩
    cases m with
    | zero => exact (onone h273).elim
    | succ m =>
      refine Wc.seq ?_
      refine Wc.seq ?_
      refine Wc.region [{}, {}, { v := some (.int .i64 (l238_.length : Int)) }] [] [0, 1, 5, 9] [] [] ⟨[(0, (.v (.sl (List.map cI.i64 l238_)), [])), (1, (.v (.int .i64 b240_), [])), (5, (.v (.int .i64 b241_), [])), (9, (.v (.bool (decide (b241_ < (l238_.length : Int)))), []))], [], []⟩ _ (by kernel_rfl) (.cons (len_obl cI.i64 l238_) .nil) ?_
      rcases oif h273 with ⟨h274, h273⟩ | ⟨h274, h273⟩
      · refine Wc.condT h274 (by kernel_rfl) ?_
        refine Wc.fix (st' := ⟨[(0, (.v (.sl (List.map cI.i64 l238_)), [])), (1, (.v (.int .i64 b240_), [])), (5, (.v (.int .i64 b241_), []))], [], []⟩) [] [0, 1, 5] [] [] (by kernel_rfl) ?_
        refine Wc.skip ?_
        refine Wc.seq ?_
        refine Wc.block ?_
        refine Wc.seq ?_
        refine Wc.seq ?_
        obtain ⟨b243_, h275, h273⟩ := obind h273
        refine Wc.region [{}, {}, { v := some (.vptr [.int .i64 b243_]) }] [] [0, 1, 5, 17] [] [] ⟨[(0, (.v (.sl (List.map cI.i64 l238_)), [])), (1, (.v (.int .i64 b240_), [])), (5, (.v (.int .i64 b241_), [])), (17, (.v (.bool (b243_ != b240_)), []))], [], []⟩ _ (by kernel_rfl) (.cons (at_obl (c := cI.i64) rfl cI.i64_len h275) (.cons (len_ok 1 [.int .i64 b243_]) .nil)) ?_
        rcases oif h273 with ⟨h276, h273⟩ | ⟨h276, h273⟩
        · refine Wc.condT h276 (by kernel_rfl) ?_
          refine Wc.seq ?_
          refine Wc.region [] [] [4] [] [] ⟨[(4, (.v (.int .i64 (-1)), []))], [], []⟩ _ (by kernel_rfl) .nil ?_
          refine Wc.ret ?_
          obtain rfl := Option.some.inj h273
          obtain rfl := Option.some.inj h
          exact ⟨.inl rfl, by kernel_rfl, by kernel_rfl⟩
        · refine Wc.condF h276 (by kernel_rfl) ?_
          refine Wc.fix (st' := ⟨[(0, (.v (.sl (List.map cI.i64 l238_)), [])), (1, (.v (.int .i64 b240_), [])), (5, (.v (.int .i64 b241_), []))], [], []⟩) [] [0, 1, 5] [] [] (by kernel_rfl) ?_
          refine Wc.skip ?_
          refine Wc.region [] [] [0, 1, 5] [] [] ⟨[(0, (.v (.sl (List.map cI.i64 l238_)), [])), (1, (.v (.int .i64 (wr.i64 (b240_ + 1))), [])), (5, (.v (.int .i64 b241_), []))], [], []⟩ _ (by kernel_rfl) .nil ?_
          refine Wc.region [] [] [0, 1, 5] [] [] ⟨[(0, (.v (.sl (List.map cI.i64 l238_)), [])), (1, (.v (.int .i64 (wr.i64 (b240_ + 1))), [])), (5, (.v (.int .i64 (wr.i64 (b241_ + 1))), []))], [], []⟩ _ (by kernel_rfl) .nil ?_
          exact ⟨_, Nat.lt_succ_self _, _, _, rfl, h273⟩
      · refine Wc.condF h274 (by kernel_rfl) ?_
        refine Wc.fix (st' := ⟨[(1, (.v (.int .i64 b240_), []))], [], []⟩) [] [1] [] [] (by kernel_rfl) ?_
        refine Wc.exit ?_
        obtain rfl := Option.some.inj h273
        exact ⟨_, rfl, rfl⟩
  · rintro st ⟨b242_, rfl, rfl⟩
    refine Wc.seq ?_
    refine Wc.region [] [] [4] [] [] ⟨[(4, (.v (.int .i64 b242_), []))], [], []⟩ _ (by kernel_rfl) .nil ?_
    refine Wc.ret ?_
    obtain rfl := Option.some.inj h
    exact ⟨.inl rfl, by kernel_rfl, by kernel_rfl⟩

def pimpl_wordsOf_d_L1 (k : Nat) (rimpl_wordsOf_d : GTerm → (List Int) → Option ((List GIns) × (List Int))) (c262_ : GTerm) : Nat → (List Int) → (List GIns) → Int → Option (Out ((List GIns) × (List Int)) ((List Int) × (List GIns)))
  | 0, _, _, _ => none
  | m + 1, l265_, j266_, b267_ =>
    if (decide (b267_ < (c262_.gKids.length : Int))) = true then
      (at' c262_.gKids b267_).bind fun c270_ =>
      (rimpl_wordsOf_d c270_ l265_).bind fun m271_ =>
      if j266_.length + m271_.1.length ≤ 1073741824 then
        pimpl_wordsOf_d_L1 k rimpl_wordsOf_d c262_ m m271_.2 (j266_ ++ m271_.1) (wr.i64 (b267_ + 1))
      else none
    else
      some (.done (l265_, j266_))
mutual
/-- impl.wordsOf -/
def pimpl_wordsOf_d : Nat → GTerm → (List Int) → Option ((List GIns) × (List Int))
  | 0, _, _ => none
  | k + 1, c262_, l263_ =>
    if (c262_.gKind == 2) = true then
      some ([GIns.mk 1 c262_.gName 0 0], l263_)
    else
      if (c262_.gKind == 3) = true then
        some ([GIns.mk 2 (bs []) c262_.gNum 0], l263_)
      else
        if (c262_.gKind == 1) = true then
          (pslices_Contains___int_int_ k l263_ c262_.gNum).bind fun e264_ =>
          if e264_ = true then
            some ([GIns.mk 4 (bs []) c262_.gNum 0], l263_)
          else
            if l263_.length + [c262_.gNum].length ≤ 1073741824 then
              some ([GIns.mk 3 (bs []) c262_.gNum 0], l263_ ++ [c262_.gNum])
            else none
        else
          (pimpl_wordsOf_d_L1 k (pimpl_wordsOf_d k) c262_ k l263_ [GIns.mk 5 c262_.gName 0 (c262_.gKids.length : Int)] 0).bind fun out1 => match out1 with
          | .ret r => some r
          | .done (l268_, j269_) =>
            some (j269_, l268_)
end
theorem all_pimpl_wordsOf_d : ∀ k : Nat, (∀ {c262_ : GTerm} {l263_ : List Int} {r : (List GIns) × (List Int)}, pimpl_wordsOf_d k c262_ l263_ = some r → FnO Try.prog 73 [.v (.agg [.int .i64 c262_.gKind, .str c262_.gName, .int .i64 c262_.gNum, .sl (List.map GTerm.c c262_.gKids)]) [], .v (.slx) [(0, .ex 3 true (List.map cI.i64 l263_))]] (.v (.tup [.slx, .slx]) [(0, .ex 97 true (List.map GIns.c r.1)), (1, .ex 3 true (List.map cI.i64 r.2))]) []) := by
  intro k
  induction k with
  | zero =>
    · intro c262_ l263_ r h
      exact (onone (by rw [pimpl_wordsOf_d] at h; exact h)).elim
  | succ k ih =>
    have ih_pimpl_wordsOf_d := @ih
    · intro c262_ l263_ r h
      rw [pimpl_wordsOf_d] at h
      refine FnO.of Try.func73 (rfl : Try.f73.body = some _) (Nat.le_of_ble_eq_true (by kernel_rfl)) (Nat.le_of_ble_eq_true (by kernel_rfl)) ?_
      intro w0 X0 Fin pv0 pb
      refine Wc.seq ?_
      refine Wc.region [] [] [1, 2] [2] [] ⟨[(1, (.v (.slx), [(0, .ex 3 true (List.map cI.i64 l263_))])), (2, (.ptr 2 0, []))], [(2, .cells [.int .i64 c262_.gKind, .str c262_.gName, .int .i64 c262_.gNum, .sl (List.map GTerm.c c262_.gKids)] [])], []⟩ _ (by kernel_rfl) .nil ?_
      refine Wc.seq ?_
      refine Wc.seq ?_
      refine Wc.region [] [] [1, 2, 11] [2] [] ⟨[(1, (.v (.slx), [(0, .ex 3 true (List.map cI.i64 l263_))])), (2, (.ptr 2 0, [])), (11, (.v (.int .i64 c262_.gKind), []))], [(2, .cells [.int .i64 c262_.gKind, .str c262_.gName, .int .i64 c262_.gNum, .sl (List.map GTerm.c c262_.gKids)] [])], []⟩ _ (by kernel_rfl) .nil ?_
      refine Wc.block ?_
      refine Wc.seq ?_
      refine Wc.region [] [] [1, 2, 11, 12] [2] [] ⟨[(1, (.v (.slx), [(0, .ex 3 true (List.map cI.i64 l263_))])), (2, (.ptr 2 0, [])), (11, (.v (.int .i64 c262_.gKind), [])), (12, (.v (.bool (c262_.gKind == 2)), []))], [(2, .cells [.int .i64 c262_.gKind, .str c262_.gName, .int .i64 c262_.gNum, .sl (List.map GTerm.c c262_.gKids)] [])], []⟩ _ (by kernel_rfl) .nil ?_
      rcases oif h with ⟨h296, h⟩ | ⟨h296, h⟩
      · refine Wc.condT h296 (by kernel_rfl) ?_
        refine Wc.seq ?_
        refine Wc.region [{}, {}, {}, { c := some (List.map GIns.c [GIns.mk 1 c262_.gName 0 0]), md := 2 }, { tk := [1] }, { tk := [17] }, { tk := [18] }] [] [4, 5] [] [] ⟨[(4, (.v (.slx), [(0, .ex 97 true (List.map GIns.c [GIns.mk 1 c262_.gName 0 0]))])), (5, (.v (.slx), [(0, .ex 3 true (List.map cI.i64 l263_))]))], [], []⟩ _ (by kernel_rfl) (.cons (cl_cons (c := GIns.c) (x := GIns.mk 1 c262_.gName 0 0) (GIns.c_eq (GIns.mk 1 c262_.gName 0 0)) (cl_nil GIns.c)) .nil) ?_
        refine Wc.ret ?_
        obtain rfl := Option.some.inj h
        exact ⟨.inl rfl, by kernel_rfl, by kernel_rfl⟩
      · refine Wc.condF h296 (by kernel_rfl) ?_
        refine Wc.seq ?_
        refine Wc.region [] [] [1, 2, 11, 19] [2] [] ⟨[(1, (.v (.slx), [(0, .ex 3 true (List.map cI.i64 l263_))])), (2, (.ptr 2 0, [])), (11, (.v (.int .i64 c262_.gKind), [])), (19, (.v (.bool (c262_.gKind == 3)), []))], [(2, .cells [.int .i64 c262_.gKind, .str c262_.gName, .int .i64 c262_.gNum, .sl (List.map GTerm.c c262_.gKids)] [])], []⟩ _ (by kernel_rfl) .nil ?_
        rcases oif h with ⟨h297, h⟩ | ⟨h297, h⟩
        · refine Wc.condT h297 (by kernel_rfl) ?_
          refine Wc.seq ?_
          refine Wc.region [{}, {}, {}, { c := some (List.map GIns.c [GIns.mk 2 (bs []) c262_.gNum 0]), md := 2 }, { tk := [1] }, { tk := [24] }, { tk := [25] }] [] [4, 5] [] [] ⟨[(4, (.v (.slx), [(0, .ex 97 true (List.map GIns.c [GIns.mk 2 (bs []) c262_.gNum 0]))])), (5, (.v (.slx), [(0, .ex 3 true (List.map cI.i64 l263_))]))], [], []⟩ _ (by kernel_rfl) (.cons (cl_cons (c := GIns.c) (x := GIns.mk 2 (bs []) c262_.gNum 0) (GIns.c_eq (GIns.mk 2 (bs []) c262_.gNum 0)) (cl_nil GIns.c)) .nil) ?_
          refine Wc.ret ?_
          obtain rfl := Option.some.inj h
          exact ⟨.inl rfl, by kernel_rfl, by kernel_rfl⟩
        · refine Wc.condF h297 (by kernel_rfl) ?_
          refine Wc.seq ?_
          refine Wc.region [] [] [1, 2, 26] [2] [] ⟨[(1, (.v (.slx), [(0, .ex 3 true (List.map cI.i64 l263_))])), (2, (.ptr 2 0, [])), (26, (.v (.bool (c262_.gKind == 1)), []))], [(2, .cells [.int .i64 c262_.gKind, .str c262_.gName, .int .i64 c262_.gNum, .sl (List.map GTerm.c c262_.gKids)] [])], []⟩ _ (by kernel_rfl) .nil ?_
          rcases oif h with ⟨h298, h⟩ | ⟨h298, h⟩
          · refine Wc.condT h298 (by kernel_rfl) ?_
            refine Wc.seq ?_
            refine Wc.seq ?_
            obtain ⟨e264_, h299, h⟩ := obind h
            refine Wc.region [{}, {}, {}, { r := some (.v (.bool e264_) []) }] [] [1, 2, 31] [2] [] ⟨[(1, (.v (.slx), [(0, .ex 3 true (List.map cI.i64 l263_))])), (2, (.ptr 2 0, [])), (31, (.v (.bool e264_), []))], [(2, .cells [.int .i64 c262_.gKind, .str c262_.gName, .int .i64 c262_.gNum, .sl (List.map GTerm.c c262_.gKids)] [])], []⟩ _ (by kernel_rfl) (.cons (cslices_Contains___int_int_ h299) .nil) ?_
            rcases oif h with ⟨h300, h⟩ | ⟨h300, h⟩
            · refine Wc.condT h300 (by kernel_rfl) ?_
              refine Wc.seq ?_
              refine Wc.region [{}, {}, {}, { c := some (List.map GIns.c [GIns.mk 4 (bs []) c262_.gNum 0]), md := 2 }, { tk := [1] }, { tk := [35] }, { tk := [36] }] [] [4, 5] [] [] ⟨[(4, (.v (.slx), [(0, .ex 97 true (List.map GIns.c [GIns.mk 4 (bs []) c262_.gNum 0]))])), (5, (.v (.slx), [(0, .ex 3 true (List.map cI.i64 l263_))]))], [], []⟩ _ (by kernel_rfl) (.cons (cl_cons (c := GIns.c) (x := GIns.mk 4 (bs []) c262_.gNum 0) (GIns.c_eq (GIns.mk 4 (bs []) c262_.gNum 0)) (cl_nil GIns.c)) .nil) ?_
              refine Wc.ret ?_
              obtain rfl := Option.some.inj h
              exact ⟨.inl rfl, by kernel_rfl, by kernel_rfl⟩
            · refine Wc.condF h300 (by kernel_rfl) ?_
              refine Wc.fix (st' := ⟨[(1, (.v (.slx), [(0, .ex 3 true (List.map cI.i64 l263_))])), (2, (.ptr 2 0, []))], [(2, .cells [.int .i64 c262_.gKind, .str c262_.gName, .int .i64 c262_.gNum, .sl (List.map GTerm.c c262_.gKids)] [])], []⟩) [] [1, 2] [2] [] (by kernel_rfl) ?_
              refine Wc.skip ?_
              refine Wc.seq ?_
              obtain ⟨h301, h⟩ := oguard h
              refine Wc.draw hmix [{}, {}, {}, { c := some (List.map GIns.c [GIns.mk 3 (bs []) c262_.gNum 0]), md := 2 }, { tk := [1] }, {}, {}, { c := some (List.map cI.i64 [c262_.gNum]) }, { c := some (List.map cI.i64 (l263_ ++ [c262_.gNum])), tk := [41], md := 2 }, { tk := [40] }, { tk := [45] }] [] [4, 5] [] [] ⟨[(4, (.v (.slx), [(0, .ex 97 true (List.map GIns.c [GIns.mk 3 (bs []) c262_.gNum 0]))])), (5, (.v (.slx), [(0, .ex 3 true (List.map cI.i64 (l263_ ++ [c262_.gNum])))]))], [], []⟩ _ (by kernel_rfl) (fun X => by kernel_rfl) (.cons (cl_cons (c := GIns.c) (x := GIns.mk 3 (bs []) c262_.gNum 0) (GIns.c_eq (GIns.mk 3 (bs []) c262_.gNum 0)) (cl_nil GIns.c)) (.cons (cl_cons (c := cI.i64) (x := c262_.gNum) rfl (cl_nil cI.i64)) (.cons (app_re2 cI.i64 l263_ [c262_.gNum]) (.cons (app_scal (c := cI.i64) (ys := [c262_.gNum]) cI.i64_scal) (.cons (app_obl2 (c := cI.i64) (xs := l263_) (ys := [c262_.gNum]) cI.i64_len h301) .nil))))) ?_
              refine Wc.ret ?_
              obtain rfl := Option.some.inj h
              exact ⟨.inl rfl, by kernel_rfl, by kernel_rfl⟩
          · refine Wc.condF h298 (by kernel_rfl) ?_
            refine Wc.fix (st' := ⟨[(1, (.v (.slx), [(0, .ex 3 true (List.map cI.i64 l263_))])), (2, (.ptr 2 0, []))], [(2, .cells [.int .i64 c262_.gKind, .str c262_.gName, .int .i64 c262_.gNum, .sl (List.map GTerm.c c262_.gKids)] [])], []⟩) [] [1, 2] [2] [] (by kernel_rfl) ?_
            refine Wc.skip ?_
            refine Wc.seq ?_
            refine Wc.region [{}, {}, {}, {}, { v := some (.int .i64 (c262_.gKids.length : Int)) }, {}, { c := some (List.map GIns.c [GIns.mk 5 c262_.gName 0 (c262_.gKids.length : Int)]), md := 2 }, { tk := [52] }] [] [1, 2, 6] [2] [] ⟨[(1, (.v (.slx), [(0, .ex 3 true (List.map cI.i64 l263_))])), (2, (.ptr 2 0, [])), (6, (.v (.slx), [(0, .ex 97 true (List.map GIns.c [GIns.mk 5 c262_.gName 0 (c262_.gKids.length : Int)]))]))], [(2, .cells [.int .i64 c262_.gKind, .str c262_.gName, .int .i64 c262_.gNum, .sl (List.map GTerm.c c262_.gKids)] [])], []⟩ _ (by kernel_rfl) (.cons (len_obl GTerm.c c262_.gKids) (.cons (cl_cons (c := GIns.c) (x := GIns.mk 5 c262_.gName 0 (c262_.gKids.length : Int)) (GIns.c_eq (GIns.mk 5 c262_.gName 0 (c262_.gKids.length : Int))) (cl_nil GIns.c)) .nil)) ?_
            refine Wc.seq ?_
            refine Wc.seq ?_
            refine Wc.region [{}, {}, { v := some (.int .i64 (c262_.gKids.length : Int)) }] [] [1, 6, 54, 55, 56] [] [] ⟨[(1, (.v (.slx), [(0, .ex 3 true (List.map cI.i64 l263_))])), (6, (.v (.slx), [(0, .ex 97 true (List.map GIns.c [GIns.mk 5 c262_.gName 0 (c262_.gKids.length : Int)]))])), (54, (.v (.sl (List.map GTerm.c c262_.gKids)), [])), (55, (.v (.int .i64 (c262_.gKids.length : Int)), [])), (56, (.v (.int .i64 0), []))], [], []⟩ _ (by kernel_rfl) (.cons (len_obl GTerm.c c262_.gKids) .nil) ?_
            obtain ⟨out1, h302, h⟩ := obind h
            refine Wc.lastJ (fun st => ∃ (l268_ : List Int) (j269_ : List GIns), out1 = .done (l268_, j269_) ∧ st = ⟨[(1, (.v (.slx), [(0, .ex 3 true (List.map cI.i64 l268_))])), (6, (.v (.slx), [(0, .ex 97 true (List.map GIns.c j269_))]))], [], []⟩) ?_ ?_
            · refine Wc.block ?_
              refine Wc.loop (fun m st => ∃ (l265_ : List Int) (j266_ : List GIns) (b267_ : Int), st = ⟨[(1, (.v (.slx), [(0, .ex 3 true (List.map cI.i64 l265_))])), (6, (.v (.slx), [(0, .ex 97 true (List.map GIns.c j266_))])), (54, (.v (.sl (List.map GTerm.c c262_.gKids)), [])), (55, (.v (.int .i64 (c262_.gKids.length : Int)), [])), (56, (.v (.int .i64 b267_), []))], [], []⟩ ∧ pimpl_wordsOf_d_L1 k (pimpl_wordsOf_d k) c262_ m l265_ j266_ b267_ = some out1) ?_ k ⟨_, _, _, rfl, h302⟩
              rintro m st ⟨l265_, j266_, b267_, rfl, h302⟩
              cases m with
              | zero => exact (onone h302).elim
              | succ m =>
                refine Wc.seq ?_
                refine Wc.region [] [] [1, 6, 54, 55, 56, 57] [] [] ⟨[(1, (.v (.slx), [(0, .ex 3 true (List.map cI.i64 l265_))])), (6, (.v (.slx), [(0, .ex 97 true (List.map GIns.c j266_))])), (54, (.v (.sl (List.map GTerm.c c262_.gKids)), [])), (55, (.v (.int .i64 (c262_.gKids.length : Int)), [])), (56, (.v (.int .i64 b267_), [])), (57, (.v (.bool (decide (b267_ < (c262_.gKids.length : Int)))), []))], [], []⟩ _ (by kernel_rfl) .nil ?_
                refine Wc.seq ?_
                rcases oif h302 with ⟨h303, h302⟩ | ⟨h303, h302⟩
                · refine Wc.condT h303 (by kernel_rfl) ?_
                  refine Wc.fix (st' := ⟨[(1, (.v (.slx), [(0, .ex 3 true (List.map cI.i64 l265_))])), (6, (.v (.slx), [(0, .ex 97 true (List.map GIns.c j266_))])), (54, (.v (.sl (List.map GTerm.c c262_.gKids)), [])), (55, (.v (.int .i64 (c262_.gKids.length : Int)), [])), (56, (.v (.int .i64 b267_), []))], [], []⟩) [] [1, 6, 54, 55, 56] [] [] (by kernel_rfl) ?_
                  refine Wc.skip ?_
                  refine Wc.seq ?_
                  refine Wc.block ?_
                  refine Wc.seq ?_
                  obtain ⟨c270_, h304, h302⟩ := obind h302
                  refine Wc.region [{ v := some (.vptr [.int .i64 c270_.gKind, .str c270_.gName, .int .i64 c270_.gNum, .sl (List.map GTerm.c c270_.gKids)]) }] [] [1, 6, 8, 54, 55, 56] [8] [] ⟨[(1, (.v (.slx), [(0, .ex 3 true (List.map cI.i64 l265_))])), (6, (.v (.slx), [(0, .ex 97 true (List.map GIns.c j266_))])), (8, (.ptr 8 0, [])), (54, (.v (.sl (List.map GTerm.c c262_.gKids)), [])), (55, (.v (.int .i64 (c262_.gKids.length : Int)), [])), (56, (.v (.int .i64 b267_), []))], [(8, .cells [.int .i64 c270_.gKind, .str c270_.gName, .int .i64 c270_.gNum, .sl (List.map GTerm.c c270_.gKids)] [])], []⟩ _ (by kernel_rfl) (.cons (at_obl (c := GTerm.c) (GTerm.c_eq c270_) GTerm.c_len h304) (.cons (len_ok 4 [.int .i64 c270_.gKind, .str c270_.gName, .int .i64 c270_.gNum, .sl (List.map GTerm.c c270_.gKids)]) .nil)) ?_
                  refine Wc.seq ?_
                  refine Wc.region [] [] [1, 6, 8, 54, 55, 56] [8] [] ⟨[(1, (.v (.slx), [(0, .ex 3 true (List.map cI.i64 l265_))])), (6, (.v (.slx), [(0, .ex 97 true (List.map GIns.c j266_))])), (8, (.ptr 8 0, [])), (54, (.v (.sl (List.map GTerm.c c262_.gKids)), [])), (55, (.v (.int .i64 (c262_.gKids.length : Int)), [])), (56, (.v (.int .i64 b267_), []))], [(8, .cells [.int .i64 c270_.gKind, .str c270_.gName, .int .i64 c270_.gNum, .sl (List.map GTerm.c c270_.gKids)] [])], []⟩ _ (by kernel_rfl) .nil ?_
                  refine Wc.seq ?_
                  obtain ⟨m271_, h305, h302⟩ := obind h302
                  refine Wc.region [{}, { tk := [1] }, { tk := [62], r := some (.v (.tup [.slx, .slx]) [(0, .ex 97 true (List.map GIns.c m271_.1)), (1, .ex 3 true (List.map cI.i64 m271_.2))]) }, { tk := [63] }, { tk := [60] }, { tk := [60] }, { tk := [64] }, { tk := [65] }] [] [1, 6, 9, 54, 55, 56] [] [] ⟨[(1, (.v (.slx), [(0, .ex 3 true (List.map cI.i64 m271_.2))])), (6, (.v (.slx), [(0, .ex 97 true (List.map GIns.c j266_))])), (9, (.v (.slx), [(0, .ex 97 true (List.map GIns.c m271_.1))])), (54, (.v (.sl (List.map GTerm.c c262_.gKids)), [])), (55, (.v (.int .i64 (c262_.gKids.length : Int)), [])), (56, (.v (.int .i64 b267_), []))], [], []⟩ _ (by kernel_rfl) (.cons (ih_pimpl_wordsOf_d h305) .nil) ?_
                  obtain ⟨h306, h302⟩ := oguard h302
                  refine Wc.region [{ tk := [6] }, { tk := [9] }, { c := some (List.map GIns.c (j266_ ++ m271_.1)), tk := [66, 67], md := 2 }, { tk := [68] }] [] [1, 6, 54, 55, 56] [] [] ⟨[(1, (.v (.slx), [(0, .ex 3 true (List.map cI.i64 m271_.2))])), (6, (.v (.slx), [(0, .ex 97 true (List.map GIns.c (j266_ ++ m271_.1)))])), (54, (.v (.sl (List.map GTerm.c c262_.gKids)), [])), (55, (.v (.int .i64 (c262_.gKids.length : Int)), [])), (56, (.v (.int .i64 b267_), []))], [], []⟩ _ (by kernel_rfl) (.cons (app_re2 GIns.c j266_ m271_.1) (.cons (app_obl2 (c := GIns.c) (xs := j266_) (ys := m271_.1) GIns.c_len h306) .nil)) ?_
                  refine Wc.region [] [] [1, 6, 54, 55, 56] [] [] ⟨[(1, (.v (.slx), [(0, .ex 3 true (List.map cI.i64 m271_.2))])), (6, (.v (.slx), [(0, .ex 97 true (List.map GIns.c (j266_ ++ m271_.1)))])), (54, (.v (.sl (List.map GTerm.c c262_.gKids)), [])), (55, (.v (.int .i64 (c262_.gKids.length : Int)), [])), (56, (.v (.int .i64 (wr.i64 (b267_ + 1))), []))], [], []⟩ _ (by kernel_rfl) .nil ?_
                  exact ⟨_, Nat.lt_succ_self _, _, _, _, rfl, h302⟩
                · refine Wc.condF h303 (by kernel_rfl) ?_
                  refine Wc.fix (st' := ⟨[(1, (.v (.slx), [(0, .ex 3 true (List.map cI.i64 l265_))])), (6, (.v (.slx), [(0, .ex 97 true (List.map GIns.c j266_))]))], [], []⟩) [] [1, 6] [] [] (by kernel_rfl) ?_
                  refine Wc.exit ?_
                  obtain rfl := Option.some.inj h302
                  exact ⟨_, _, rfl, rfl⟩
            · rintro st ⟨l268_, j269_, rfl, rfl⟩
              refine Wc.seq ?_
              refine Wc.region [{ tk := [6] }, { tk := [1] }, { tk := [70] }, { tk := [71] }] [] [4, 5] [] [] ⟨[(4, (.v (.slx), [(0, .ex 97 true (List.map GIns.c j269_))])), (5, (.v (.slx), [(0, .ex 3 true (List.map cI.i64 l268_))]))], [], []⟩ _ (by kernel_rfl) .nil ?_
              refine Wc.ret ?_
              obtain rfl := Option.some.inj h
              exact ⟨.inl rfl, by kernel_rfl, by kernel_rfl⟩
theorem cimpl_wordsOf_d {k : Nat} {c262_ : GTerm} {l263_ : List Int} {r : (List GIns) × (List Int)} (h : pimpl_wordsOf_d k c262_ l263_ = some r) : FnO Try.prog 73 [.v (.agg [.int .i64 c262_.gKind, .str c262_.gName, .int .i64 c262_.gNum, .sl (List.map GTerm.c c262_.gKids)]) [], .v (.slx) [(0, .ex 3 true (List.map cI.i64 l263_))]] (.v (.tup [.slx, .slx]) [(0, .ex 97 true (List.map GIns.c r.1)), (1, .ex 3 true (List.map cI.i64 r.2))]) [] := (all_pimpl_wordsOf_d k) h

def plaws_toTermS_d_L1 (k : Nat) (rlaws_toTerm_d : GTerm → Option GTerm) (rlaws_toTermS_d : (List GTerm) → Option (List GTerm)) (a261_ : List GTerm) : Nat → (List GTerm) → Int → Option (Out (List GTerm) (List GTerm))
  | 0, _, _ => none
  | m + 1, a262_, b263_ =>
    if (decide (b263_ < (a261_.length : Int))) = true then
      (at' a261_ b263_).bind fun c265_ =>
      (rlaws_toTerm_d c265_).bind fun c266_ =>
      (at' a262_ b263_).bind fun c267_ =>
      plaws_toTermS_d_L1 k rlaws_toTerm_d rlaws_toTermS_d a261_ m (a262_.set ((b263_).toNat) c266_) (wr.i64 (b263_ + 1))
    else
      some (.done a262_)
mutual
/-- laws.toTerm -/
def plaws_toTerm_d : Nat → GTerm → Option GTerm
  | 0, _ => none
  | k + 1, c259_ =>
    (plaws_toTermS_d k c259_.gKids).bind fun d260_ =>
    some (GTerm.mk c259_.gKind c259_.gName c259_.gNum d260_)
/-- laws.toTermS -/
def plaws_toTermS_d : Nat → (List GTerm) → Option (List GTerm)
  | 0, _ => none
  | k + 1, a261_ =>
    if 0 ≤ (a261_.length : Int) ∧ (a261_.length : Int) ≤ 1073741824 then
      (plaws_toTermS_d_L1 k (plaws_toTerm_d k) (plaws_toTermS_d k) a261_ k (List.replicate ((a261_.length : Int)).toNat (GTerm.mk 0 (bs []) 0 [])) 0).bind fun out1 => match out1 with
      | .ret r => some r
      | .done a264_ =>
        some a264_
    else none
end
theorem all_plaws_toTerm_d : ∀ k : Nat, (∀ {c259_ : GTerm} {r : GTerm}, plaws_toTerm_d k c259_ = some r → FnO Try.prog 18 [.v (.agg [.int .i64 c259_.gKind, .str c259_.gName, .int .i64 c259_.gNum, .sl (List.map GTerm.c c259_.gKids)]) []] (.v (.agg [.int .i64 r.gKind, .str r.gName, .int .i64 r.gNum, .slx]) [(3, .ex 37 true (List.map GTerm.c r.gKids))]) []) ∧
    (∀ {a261_ : List GTerm} {r : (List GTerm)}, plaws_toTermS_d k a261_ = some r → FnO Try.prog 55 [.v (.sl (List.map GTerm.c a261_)) []] (.v (.slx) [(0, .ex 37 true (List.map GTerm.c r))]) []) := by
  intro k
  induction k with
  | zero =>
    refine ⟨?_, ?_⟩
    · intro c259_ r h
      exact (onone (by rw [plaws_toTerm_d] at h; exact h)).elim
    · intro a261_ r h
      exact (onone (by rw [plaws_toTermS_d] at h; exact h)).elim
  | succ k ih =>
    obtain ⟨ih_plaws_toTerm_d, ih_plaws_toTermS_d⟩ := ih
    refine ⟨?_, ?_⟩
    · intro c259_ r h
      rw [plaws_toTerm_d] at h
      refine FnO.of Try.func18 (rfl : Try.f18.body = some _) (Nat.le_of_ble_eq_true (by kernel_rfl)) (Nat.le_of_ble_eq_true (by kernel_rfl)) ?_
      intro w0 X0 Fin pv0 pb
      refine Wc.seq ?_
      refine Wc.region [] [] [1, 2] [1, 2] [] ⟨[(1, (.ptr 1 0, [])), (2, (.ptr 2 0, []))], [(1, .cells [.int .i64 c259_.gKind, .str c259_.gName, .int .i64 c259_.gNum, .sl (List.map GTerm.c c259_.gKids)] []), (2, .cells [.int .i64 0, .str (bs []), .int .i64 0, .sl (List.map GTerm.c [])] [(3, .app 37)])], []⟩ _ (by kernel_rfl) .nil ?_
      refine Wc.seq ?_
      refine Wc.region [] [] [1, 2, 3] [1, 2, 3] [] ⟨[(1, (.ptr 1 0, [])), (2, (.ptr 2 0, [])), (3, (.ptr 3 0, []))], [(1, .cells [.int .i64 c259_.gKind, .str c259_.gName, .int .i64 c259_.gNum, .sl (List.map GTerm.c c259_.gKids)] []), (2, .cells [.int .i64 0, .str (bs []), .int .i64 0, .sl (List.map GTerm.c [])] [(3, .app 37)]), (3, .cells [.int .i64 0, .str (bs []), .int .i64 0, .sl (List.map GTerm.c [])] [(3, .app 37)])], []⟩ _ (by kernel_rfl) .nil ?_
      refine Wc.seq ?_
      refine Wc.region [] [] [1, 2, 3] [1, 2, 3] [] ⟨[(1, (.ptr 1 0, [])), (2, (.ptr 2 0, [])), (3, (.ptr 3 0, []))], [(1, .cells [.int .i64 c259_.gKind, .str c259_.gName, .int .i64 c259_.gNum, .sl (List.map GTerm.c c259_.gKids)] []), (2, .cells [.int .i64 0, .str (bs []), .int .i64 0, .sl (List.map GTerm.c [])] [(3, .app 37)]), (3, .cells [.int .i64 c259_.gKind, .str (bs []), .int .i64 0, .sl (List.map GTerm.c [])] [(3, .app 37)])], []⟩ _ (by kernel_rfl) .nil ?_
      refine Wc.seq ?_
      refine Wc.region [] [] [1, 2, 3] [1, 2, 3] [] ⟨[(1, (.ptr 1 0, [])), (2, (.ptr 2 0, [])), (3, (.ptr 3 0, []))], [(1, .cells [.int .i64 c259_.gKind, .str c259_.gName, .int .i64 c259_.gNum, .sl (List.map GTerm.c c259_.gKids)] []), (2, .cells [.int .i64 0, .str (bs []), .int .i64 0, .sl (List.map GTerm.c [])] [(3, .app 37)]), (3, .cells [.int .i64 c259_.gKind, .str c259_.gName, .int .i64 0, .sl (List.map GTerm.c [])] [(3, .app 37)])], []⟩ _ (by kernel_rfl) .nil ?_
      refine Wc.seq ?_
      refine Wc.region [] [] [1, 2, 3] [1, 2, 3] [] ⟨[(1, (.ptr 1 0, [])), (2, (.ptr 2 0, [])), (3, (.ptr 3 0, []))], [(1, .cells [.int .i64 c259_.gKind, .str c259_.gName, .int .i64 c259_.gNum, .sl (List.map GTerm.c c259_.gKids)] []), (2, .cells [.int .i64 0, .str (bs []), .int .i64 0, .sl (List.map GTerm.c [])] [(3, .app 37)]), (3, .cells [.int .i64 c259_.gKind, .str c259_.gName, .int .i64 c259_.gNum, .sl (List.map GTerm.c [])] [(3, .app 37)])], []⟩ _ (by kernel_rfl) .nil ?_
      refine Wc.seq ?_
      obtain ⟨d260_, h290, h⟩ := obind h
      refine Wc.region [{}, {}, { r := some (.v (.slx) [(0, .ex 37 true (List.map GTerm.c d260_))]) }, {}, { tk := [15] }] [] [2, 3] [2, 3] [] ⟨[(2, (.ptr 2 0, [])), (3, (.ptr 3 0, []))], [(2, .cells [.int .i64 0, .str (bs []), .int .i64 0, .sl (List.map GTerm.c [])] [(3, .app 37)]), (3, .cells [.int .i64 c259_.gKind, .str c259_.gName, .int .i64 c259_.gNum, .slx] [(3, .ex 37 true (List.map GTerm.c d260_))])], []⟩ _ (by kernel_rfl) (.cons (ih_plaws_toTermS_d h290) .nil) ?_
      refine Wc.seq ?_
      refine Wc.region [{ md := 1 }, { tk := [17] }] [] [2] [2] [] ⟨[(2, (.ptr 2 0, []))], [(2, .cells [.int .i64 c259_.gKind, .str c259_.gName, .int .i64 c259_.gNum, .slx] [(3, .ex 37 true (List.map GTerm.c d260_))])], []⟩ _ (by kernel_rfl) .nil ?_
      refine Wc.ret ?_
      obtain rfl := Option.some.inj h
      exact ⟨.inl rfl, by kernel_rfl, by kernel_rfl⟩
    · intro a261_ r h
      rw [plaws_toTermS_d] at h
      refine FnO.of Try.func55 (rfl : Try.f55.body = some _) (Nat.le_of_ble_eq_true (by kernel_rfl)) (Nat.le_of_ble_eq_true (by kernel_rfl)) ?_
      intro w0 X0 Fin pv0 pb
      refine Wc.seq ?_
      refine Wc.region [] [] [0] [] [] ⟨[(0, (.v (.sl (List.map GTerm.c a261_)), []))], [], []⟩ _ (by kernel_rfl) .nil ?_
      refine Wc.seq ?_
      obtain ⟨h291, h⟩ := oguard h
      refine Wc.region [{}, { v := some (.int .i64 (a261_.length : Int)) }, { c := some (List.map GTerm.c (List.replicate ((a261_.length : Int)).toNat (GTerm.mk 0 (bs []) 0 []))) }, { tk := [7] }] [] [0, 3] [] [] ⟨[(0, (.v (.sl (List.map GTerm.c a261_)), [])), (3, (.v (.slx), [(0, .ex 37 true (List.map GTerm.c (List.replicate ((a261_.length : Int)).toNat (GTerm.mk 0 (bs []) 0 []))))]))], [], []⟩ _ (by kernel_rfl) (.cons (len_obl GTerm.c a261_) (.cons (rep_re (c := GTerm.c) (z := (GTerm.mk 0 (bs []) 0 [])) (GTerm.c_eq (GTerm.mk 0 (bs []) 0 [])) ((a261_.length : Int)).toNat) (.cons (ms_obl h291) .nil))) ?_
      refine Wc.seq ?_
      refine Wc.seq ?_
      refine Wc.region [] [] [0, 3, 4] [] [] ⟨[(0, (.v (.sl (List.map GTerm.c a261_)), [])), (3, (.v (.slx), [(0, .ex 37 true (List.map GTerm.c (List.replicate ((a261_.length : Int)).toNat (GTerm.mk 0 (bs []) 0 []))))])), (4, (.v (.int .i64 0), []))], [], []⟩ _ (by kernel_rfl) .nil ?_
      obtain ⟨out1, h292, h⟩ := obind h
      refine Wc.lastJ (fun st => ∃ (a264_ : List GTerm), out1 = .done a264_ ∧ st = ⟨[(3, (.v (.slx), [(0, .ex 37 true (List.map GTerm.c a264_))]))], [], []⟩) ?_ ?_
      · refine Wc.block ?_
        refine Wc.loop (fun m st => ∃ (a262_ : List GTerm) (b263_ : Int), st = ⟨[(0, (.v (.sl (List.map GTerm.c a261_)), [])), (3, (.v (.slx), [(0, .ex 37 true (List.map GTerm.c a262_))])), (4, (.v (.int .i64 b263_), []))], [], []⟩ ∧ plaws_toTermS_d_L1 k (plaws_toTerm_d k) (plaws_toTermS_d k) a261_ m a262_ b263_ = some out1) ?_ k ⟨_, _, rfl, h292⟩
        rintro m st ⟨a262_, b263_, rfl, h292⟩
        cases m with
        | zero => exact (onone h292).elim
        | succ m =>
          refine Wc.seq ?_
          refine Wc.seq ?_
          refine Wc.region [{}, {}, { v := some (.int .i64 (a261_.length : Int)) }] [] [0, 3, 4, 11] [] [] ⟨[(0, (.v (.sl (List.map GTerm.c a261_)), [])), (3, (.v (.slx), [(0, .ex 37 true (List.map GTerm.c a262_))])), (4, (.v (.int .i64 b263_), [])), (11, (.v (.bool (decide (b263_ < (a261_.length : Int)))), []))], [], []⟩ _ (by kernel_rfl) (.cons (len_obl GTerm.c a261_) .nil) ?_
          rcases oif h292 with ⟨h293, h292⟩ | ⟨h293, h292⟩
          · refine Wc.condT h293 (by kernel_rfl) ?_
            refine Wc.fix (st' := ⟨[(0, (.v (.sl (List.map GTerm.c a261_)), [])), (3, (.v (.slx), [(0, .ex 37 true (List.map GTerm.c a262_))])), (4, (.v (.int .i64 b263_), []))], [], []⟩) [] [0, 3, 4] [] [] (by kernel_rfl) ?_
            refine Wc.skip ?_
            refine Wc.seq ?_
            refine Wc.block ?_
            obtain ⟨c265_, h294, h292⟩ := obind h292
            obtain ⟨c266_, h295, h292⟩ := obind h292
            obtain ⟨c267_, h296, h292⟩ := obind h292
            refine Wc.region [{}, {}, {}, {}, { v := some (.vptr [.int .i64 c265_.gKind, .str c265_.gName, .int .i64 c265_.gNum, .sl (List.map GTerm.c c265_.gKids)]) }, {}, { r := some (.v (.agg [.int .i64 c266_.gKind, .str c266_.gName, .int .i64 c266_.gNum, .slx]) [(3, .ex 37 true (List.map GTerm.c c266_.gKids))]) }, {}, { c := some (List.map GTerm.c (a262_.set ((b263_).toNat) c266_)), tk := [20] }] [] [0, 3, 4] [] [] ⟨[(0, (.v (.sl (List.map GTerm.c a261_)), [])), (3, (.v (.slx), [(0, .ex 37 true (List.map GTerm.c (a262_.set ((b263_).toNat) c266_)))])), (4, (.v (.int .i64 b263_), []))], [], []⟩ _ (by kernel_rfl) (.cons (at_obl (c := GTerm.c) (GTerm.c_eq c265_) GTerm.c_len h294) (.cons (len_ok 4 [.int .i64 c265_.gKind, .str c265_.gName, .int .i64 c265_.gNum, .sl (List.map GTerm.c c265_.gKids)]) (.cons (ih_plaws_toTerm_d h295) (.cons (ix_obl (c := GTerm.c) GTerm.c_len h296) (.cons (mod_obl (off := 0) (new := [.int .i64 c266_.gKind, .str c266_.gName, .int .i64 c266_.gNum, .sl (List.map GTerm.c c266_.gKids)]) (c := GTerm.c) (GTerm.c_eq c267_) (GTerm.c_eq c266_) (at'_spec h296).2 rfl) (.cons (st_obl (sz := 4) (off := 0) (s := 4) (c := GTerm.c) (GTerm.c_eq c267_) (at'_spec h296).2 rfl (Nat.le_of_ble_eq_true rfl)) .nil)))))) ?_
            refine Wc.region [] [] [0, 3, 4] [] [] ⟨[(0, (.v (.sl (List.map GTerm.c a261_)), [])), (3, (.v (.slx), [(0, .ex 37 true (List.map GTerm.c (a262_.set ((b263_).toNat) c266_)))])), (4, (.v (.int .i64 (wr.i64 (b263_ + 1))), []))], [], []⟩ _ (by kernel_rfl) .nil ?_
            exact ⟨_, Nat.lt_succ_self _, _, _, rfl, h292⟩
          · refine Wc.condF h293 (by kernel_rfl) ?_
            refine Wc.fix (st' := ⟨[(3, (.v (.slx), [(0, .ex 37 true (List.map GTerm.c a262_))]))], [], []⟩) [] [3] [] [] (by kernel_rfl) ?_
            refine Wc.exit ?_
            obtain rfl := Option.some.inj h292
            exact ⟨_, rfl, rfl⟩
      · rintro st ⟨a264_, rfl, rfl⟩
        refine Wc.seq ?_
        refine Wc.region [{ tk := [3] }, { tk := [22] }] [] [2] [] [] ⟨[(2, (.v (.slx), [(0, .ex 37 true (List.map GTerm.c a264_))]))], [], []⟩ _ (by kernel_rfl) .nil ?_
        refine Wc.ret ?_
        obtain rfl := Option.some.inj h
        exact ⟨.inl rfl, by kernel_rfl, by kernel_rfl⟩
theorem claws_toTerm_d {k : Nat} {c259_ : GTerm} {r : GTerm} (h : plaws_toTerm_d k c259_ = some r) : FnO Try.prog 18 [.v (.agg [.int .i64 c259_.gKind, .str c259_.gName, .int .i64 c259_.gNum, .sl (List.map GTerm.c c259_.gKids)]) []] (.v (.agg [.int .i64 r.gKind, .str r.gName, .int .i64 r.gNum, .slx]) [(3, .ex 37 true (List.map GTerm.c r.gKids))]) [] := (all_plaws_toTerm_d k).1 h
theorem claws_toTermS_d {k : Nat} {a261_ : List GTerm} {r : (List GTerm)} (h : plaws_toTermS_d k a261_ = some r) : FnO Try.prog 55 [.v (.sl (List.map GTerm.c a261_)) []] (.v (.slx) [(0, .ex 37 true (List.map GTerm.c r))]) [] := (all_plaws_toTerm_d k).2 h

def plaws_toIntS_d_L1 (k : Nat) (l257_ : List Int) : Nat → (List Int) → Int → Option (Out (List Int) (List Int))
  | 0, _, _ => none
  | m + 1, l258_, b259_ =>
    if (decide (b259_ < (l257_.length : Int))) = true then
      (at' l257_ b259_).bind fun b261_ =>
      (at' l258_ b259_).bind fun b262_ =>
      plaws_toIntS_d_L1 k l257_ m (l258_.set ((b259_).toNat) b261_) (wr.i64 (b259_ + 1))
    else
      some (.done l258_)
/-- laws.toIntS -/
def plaws_toIntS_d (k : Nat) (l257_ : List Int) : Option (List Int) :=
  if 0 ≤ (l257_.length : Int) ∧ (l257_.length : Int) ≤ 1073741824 then
    (plaws_toIntS_d_L1 k l257_ k (List.replicate ((l257_.length : Int)).toNat 0) 0).bind fun out1 => match out1 with
    | .ret r => some r
    | .done l260_ =>
      some l260_
  else none
theorem claws_toIntS_d {k : Nat} {l257_ : List Int} {r : (List Int)} (h : plaws_toIntS_d k l257_ = some r) : FnO Try.prog 30 [.v (.sl (List.map cI.i64 l257_)) []] (.v (.slx) [(0, .ex 3 true (List.map cI.i64 r))]) [] := by
  refine FnO.of Try.func30 (rfl : Try.f30.body = some _) (Nat.le_of_ble_eq_true (by kernel_rfl)) (Nat.le_of_ble_eq_true (by kernel_rfl)) ?_
  intro w0 X0 Fin pv0 pb
  unfold plaws_toIntS_d at h
  refine Wc.seq ?_
  refine Wc.region [] [] [0] [] [] ⟨[(0, (.v (.sl (List.map cI.i64 l257_)), []))], [], []⟩ _ (by kernel_rfl) .nil ?_
  refine Wc.seq ?_
  obtain ⟨h289, h⟩ := oguard h
  refine Wc.region [{}, { v := some (.int .i64 (l257_.length : Int)) }, { c := some (List.map cI.i64 (List.replicate ((l257_.length : Int)).toNat 0)) }, { tk := [7] }] [] [0, 3] [] [] ⟨[(0, (.v (.sl (List.map cI.i64 l257_)), [])), (3, (.v (.slx), [(0, .ex 3 true (List.map cI.i64 (List.replicate ((l257_.length : Int)).toNat 0)))]))], [], []⟩ _ (by kernel_rfl) (.cons (len_obl cI.i64 l257_) (.cons (rep_re (c := cI.i64) (z := 0) rfl ((l257_.length : Int)).toNat) (.cons (ms_obl h289) .nil))) ?_
  refine Wc.seq ?_
  refine Wc.seq ?_
  refine Wc.region [] [] [0, 3, 4] [] [] ⟨[(0, (.v (.sl (List.map cI.i64 l257_)), [])), (3, (.v (.slx), [(0, .ex 3 true (List.map cI.i64 (List.replicate ((l257_.length : Int)).toNat 0)))])), (4, (.v (.int .i64 0), []))], [], []⟩ _ (by kernel_rfl) .nil ?_
  obtain ⟨out1, h290, h⟩ := obind h
  refine Wc.lastJ (fun st => ∃ (l260_ : List Int), out1 = .done l260_ ∧ st = ⟨[(3, (.v (.slx), [(0, .ex 3 true (List.map cI.i64 l260_))]))], [], []⟩) ?_ ?_
  · refine Wc.block ?_
    refine Wc.loop (fun m st => ∃ (l258_ : List Int) (b259_ : Int), st = ⟨[(0, (.v (.sl (List.map cI.i64 l257_)), [])), (3, (.v (.slx), [(0, .ex 3 true (List.map cI.i64 l258_))])), (4, (.v (.int .i64 b259_), []))], [], []⟩ ∧ plaws_toIntS_d_L1 k l257_ m l258_ b259_ = some out1) ?_ k ⟨_, _, rfl, h290⟩
    rintro m st ⟨l258_, b259_, rfl, h290⟩
    cases m with
    | zero => exact (onone h290).elim
    | succ m =>
      refine Wc.seq ?_
      refine Wc.seq ?_
      refine Wc.region [{}, {}, { v := some (.int .i64 (l257_.length : Int)) }] [] [0, 3, 4, 11] [] [] ⟨[(0, (.v (.sl (List.map cI.i64 l257_)), [])), (3, (.v (.slx), [(0, .ex 3 true (List.map cI.i64 l258_))])), (4, (.v (.int .i64 b259_), [])), (11, (.v (.bool (decide (b259_ < (l257_.length : Int)))), []))], [], []⟩ _ (by kernel_rfl) (.cons (len_obl cI.i64 l257_) .nil) ?_
      rcases oif h290 with ⟨h291, h290⟩ | ⟨h291, h290⟩
      · refine Wc.condT h291 (by kernel_rfl) ?_
        refine Wc.fix (st' := ⟨[(0, (.v (.sl (List.map cI.i64 l257_)), [])), (3, (.v (.slx), [(0, .ex 3 true (List.map cI.i64 l258_))])), (4, (.v (.int .i64 b259_), []))], [], []⟩) [] [0, 3, 4] [] [] (by kernel_rfl) ?_
        refine Wc.skip ?_
        refine Wc.seq ?_
        refine Wc.block ?_
        obtain ⟨b261_, h292, h290⟩ := obind h290
        obtain ⟨b262_, h293, h290⟩ := obind h290
        refine Wc.region [{}, {}, {}, {}, { v := some (.vptr [.int .i64 b261_]) }, {}, {}, { c := some (List.map cI.i64 (l258_.set ((b259_).toNat) b261_)) }] [] [0, 3, 4] [] [] ⟨[(0, (.v (.sl (List.map cI.i64 l257_)), [])), (3, (.v (.slx), [(0, .ex 3 true (List.map cI.i64 (l258_.set ((b259_).toNat) b261_)))])), (4, (.v (.int .i64 b259_), []))], [], []⟩ _ (by kernel_rfl) (.cons (at_obl (c := cI.i64) rfl cI.i64_len h292) (.cons (len_ok 1 [.int .i64 b261_]) (.cons (ix_obl (c := cI.i64) cI.i64_len h293) (.cons (mod_obl (off := 0) (new := [.int .i64 b261_]) (c := cI.i64) rfl rfl (at'_spec h293).2 rfl) (.cons (st_obl (sz := 1) (off := 0) (s := 1) (c := cI.i64) rfl (at'_spec h293).2 rfl (Nat.le_of_ble_eq_true rfl)) .nil))))) ?_
        refine Wc.region [] [] [0, 3, 4] [] [] ⟨[(0, (.v (.sl (List.map cI.i64 l257_)), [])), (3, (.v (.slx), [(0, .ex 3 true (List.map cI.i64 (l258_.set ((b259_).toNat) b261_)))])), (4, (.v (.int .i64 (wr.i64 (b259_ + 1))), []))], [], []⟩ _ (by kernel_rfl) .nil ?_
        exact ⟨_, Nat.lt_succ_self _, _, _, rfl, h290⟩
      · refine Wc.condF h291 (by kernel_rfl) ?_
        refine Wc.fix (st' := ⟨[(3, (.v (.slx), [(0, .ex 3 true (List.map cI.i64 l258_))]))], [], []⟩) [] [3] [] [] (by kernel_rfl) ?_
        refine Wc.exit ?_
        obtain rfl := Option.some.inj h290
        exact ⟨_, rfl, rfl⟩
  · rintro st ⟨l260_, rfl, rfl⟩
    refine Wc.seq ?_
    refine Wc.region [{ tk := [3] }, { tk := [21] }] [] [2] [] [] ⟨[(2, (.v (.slx), [(0, .ex 3 true (List.map cI.i64 l260_))]))], [], []⟩ _ (by kernel_rfl) .nil ?_
    refine Wc.ret ?_
    obtain rfl := Option.some.inj h
    exact ⟨.inl rfl, by kernel_rfl, by kernel_rfl⟩

def pimpl_WordsOf_d_L1 (k : Nat) (l262_ : List Int) : Nat → (List Int) → Int → Option (Out ((List GIns) × (List Int)) (List Int))
  | 0, _, _ => none
  | m + 1, l263_, b264_ =>
    if (decide (b264_ < (l262_.length : Int))) = true then
      (at' l262_ b264_).bind fun b266_ =>
      (pslices_Contains___int_int_ k l263_ b266_).bind fun e267_ =>
      if (!e267_) = true then
        if l263_.length + [b266_].length ≤ 1073741824 then
          pimpl_WordsOf_d_L1 k l262_ m (l263_ ++ [b266_]) (wr.i64 (b264_ + 1))
        else none
      else
        pimpl_WordsOf_d_L1 k l262_ m l263_ (wr.i64 (b264_ + 1))
    else
      some (.done l263_)
/-- impl.WordsOf -/
def pimpl_WordsOf_d (k : Nat) (c261_ : GTerm) (l262_ : List Int) : Option ((List GIns) × (List Int)) :=
  (pimpl_WordsOf_d_L1 k l262_ k [] 0).bind fun out1 => match out1 with
  | .ret r => some r
  | .done l265_ =>
    (pimpl_TermOk k c261_).bind fun e268_ =>
    if (!e268_) = true then
      some ([], l265_)
    else
      (pimpl_wordsOf_d k c261_ l265_).bind fun m269_ =>
      some (m269_.1, m269_.2)
theorem cimpl_WordsOf_d {k : Nat} {c261_ : GTerm} {l262_ : List Int} {r : (List GIns) × (List Int)} (h : pimpl_WordsOf_d k c261_ l262_ = some r) : FnO Try.prog 31 [.v (.agg [.int .i64 c261_.gKind, .str c261_.gName, .int .i64 c261_.gNum, .sl (List.map GTerm.c c261_.gKids)]) [], .v (.sl (List.map cI.i64 l262_)) []] (.v (.tup [.slx, .slx]) [(0, .ex 97 true (List.map GIns.c r.1)), (1, .ex 3 true (List.map cI.i64 r.2))]) [] := by
  refine FnO.of Try.func31 (rfl : Try.f31.body = some _) (Nat.le_of_ble_eq_true (by kernel_rfl)) (Nat.le_of_ble_eq_true (by kernel_rfl)) ?_
  intro w0 X0 Fin pv0 pb
  unfold pimpl_WordsOf_d at h
  refine Wc.seq ?_
  refine Wc.region [] [] [1, 2] [2] [] ⟨[(1, (.v (.sl (List.map cI.i64 l262_)), [])), (2, (.ptr 2 0, []))], [(2, .cells [.int .i64 c261_.gKind, .str c261_.gName, .int .i64 c261_.gNum, .sl (List.map GTerm.c c261_.gKids)] [])], []⟩ _ (by kernel_rfl) .nil ?_
  refine Wc.seq ?_
  refine Wc.region [] [] [1, 2, 6] [2] [] ⟨[(1, (.v (.sl (List.map cI.i64 l262_)), [])), (2, (.ptr 2 0, [])), (6, (.v (.sl (List.map cI.i64 [])), [(0, .app 3)]))], [(2, .cells [.int .i64 c261_.gKind, .str c261_.gName, .int .i64 c261_.gNum, .sl (List.map GTerm.c c261_.gKids)] [])], []⟩ _ (by kernel_rfl) .nil ?_
  refine Wc.seq ?_
  refine Wc.seq ?_
  refine Wc.region [{}, { v := some (.int .i64 (l262_.length : Int)) }] [] [2, 6, 9, 10, 11] [2] [] ⟨[(2, (.ptr 2 0, [])), (6, (.v (.sl (List.map cI.i64 [])), [(0, .app 3)])), (9, (.v (.sl (List.map cI.i64 l262_)), [])), (10, (.v (.int .i64 (l262_.length : Int)), [])), (11, (.v (.int .i64 0), []))], [(2, .cells [.int .i64 c261_.gKind, .str c261_.gName, .int .i64 c261_.gNum, .sl (List.map GTerm.c c261_.gKids)] [])], []⟩ _ (by kernel_rfl) (.cons (len_obl cI.i64 l262_) .nil) ?_
  obtain ⟨out1, h294, h⟩ := obind h
  refine Wc.lastJ (fun st => ∃ (l265_ : List Int), out1 = .done l265_ ∧ st = ⟨[(2, (.ptr 2 0, [])), (6, (.v (.slx), [(0, .ex 3 true (List.map cI.i64 l265_))]))], [(2, .cells [.int .i64 c261_.gKind, .str c261_.gName, .int .i64 c261_.gNum, .sl (List.map GTerm.c c261_.gKids)] [])], []⟩) ?_ ?_
  · refine Wc.block ?_
    refine Wc.fix (st' := ⟨[(2, (.ptr 2 0, [])), (6, (.v (.slx), [(0, .ex 3 true (List.map cI.i64 []))])), (9, (.v (.sl (List.map cI.i64 l262_)), [])), (10, (.v (.int .i64 (l262_.length : Int)), [])), (11, (.v (.int .i64 0), []))], [(2, .cells [.int .i64 c261_.gKind, .str c261_.gName, .int .i64 c261_.gNum, .sl (List.map GTerm.c c261_.gKids)] [])], []⟩) [.ow (.t 6 0) true] [2, 6, 9, 10, 11] [2] [] (by kernel_rfl) ?_
    refine Wc.loop (fun m st => ∃ (l263_ : List Int) (b264_ : Int), st = ⟨[(2, (.ptr 2 0, [])), (6, (.v (.slx), [(0, .ex 3 true (List.map cI.i64 l263_))])), (9, (.v (.sl (List.map cI.i64 l262_)), [])), (10, (.v (.int .i64 (l262_.length : Int)), [])), (11, (.v (.int .i64 b264_), []))], [(2, .cells [.int .i64 c261_.gKind, .str c261_.gName, .int .i64 c261_.gNum, .sl (List.map GTerm.c c261_.gKids)] [])], []⟩ ∧ pimpl_WordsOf_d_L1 k l262_ m l263_ b264_ = some out1) ?_ k ⟨_, _, rfl, h294⟩
    rintro m st ⟨l263_, b264_, rfl, h294⟩
    cases m with
    | zero => exact (onone h294).elim
    | succ m =>
      refine Wc.seq ?_
      refine Wc.region [] [] [2, 6, 9, 10, 11, 12] [2] [] ⟨[(2, (.ptr 2 0, [])), (6, (.v (.slx), [(0, .ex 3 true (List.map cI.i64 l263_))])), (9, (.v (.sl (List.map cI.i64 l262_)), [])), (10, (.v (.int .i64 (l262_.length : Int)), [])), (11, (.v (.int .i64 b264_), [])), (12, (.v (.bool (decide (b264_ < (l262_.length : Int)))), []))], [(2, .cells [.int .i64 c261_.gKind, .str c261_.gName, .int .i64 c261_.gNum, .sl (List.map GTerm.c c261_.gKids)] [])], []⟩ _ (by kernel_rfl) .nil ?_
      refine Wc.seq ?_
      rcases oif h294 with ⟨h295, h294⟩ | ⟨h295, h294⟩
      · refine Wc.condT h295 (by kernel_rfl) ?_
        refine Wc.fix (st' := ⟨[(2, (.ptr 2 0, [])), (6, (.v (.slx), [(0, .ex 3 true (List.map cI.i64 l263_))])), (9, (.v (.sl (List.map cI.i64 l262_)), [])), (10, (.v (.int .i64 (l262_.length : Int)), [])), (11, (.v (.int .i64 b264_), []))], [(2, .cells [.int .i64 c261_.gKind, .str c261_.gName, .int .i64 c261_.gNum, .sl (List.map GTerm.c c261_.gKids)] [])], []⟩) [] [2, 6, 9, 10, 11] [2] [] (by kernel_rfl) ?_
        refine Wc.skip ?_
        refine Wc.seq ?_
        refine Wc.block ?_
        refine Wc.seq ?_
        obtain ⟨b266_, h296, h294⟩ := obind h294
        refine Wc.region [{ v := some (.vptr [.int .i64 b266_]) }] [] [2, 6, 8, 9, 10, 11] [2] [] ⟨[(2, (.ptr 2 0, [])), (6, (.v (.slx), [(0, .ex 3 true (List.map cI.i64 l263_))])), (8, (.v (.int .i64 b266_), [])), (9, (.v (.sl (List.map cI.i64 l262_)), [])), (10, (.v (.int .i64 (l262_.length : Int)), [])), (11, (.v (.int .i64 b264_), []))], [(2, .cells [.int .i64 c261_.gKind, .str c261_.gName, .int .i64 c261_.gNum, .sl (List.map GTerm.c c261_.gKids)] [])], []⟩ _ (by kernel_rfl) (.cons (at_obl (c := cI.i64) rfl cI.i64_len h296) (.cons (len_ok 1 [.int .i64 b266_]) .nil)) ?_
        refine Wc.seq ?_
        obtain ⟨e267_, h297, h294⟩ := obind h294
        refine Wc.region [{}, {}, { r := some (.v (.bool e267_) []) }] [] [2, 6, 8, 9, 10, 11, 18] [2] [] ⟨[(2, (.ptr 2 0, [])), (6, (.v (.slx), [(0, .ex 3 true (List.map cI.i64 l263_))])), (8, (.v (.int .i64 b266_), [])), (9, (.v (.sl (List.map cI.i64 l262_)), [])), (10, (.v (.int .i64 (l262_.length : Int)), [])), (11, (.v (.int .i64 b264_), [])), (18, (.v (.bool (!e267_)), []))], [(2, .cells [.int .i64 c261_.gKind, .str c261_.gName, .int .i64 c261_.gNum, .sl (List.map GTerm.c c261_.gKids)] [])], []⟩ _ (by kernel_rfl) (.cons (cslices_Contains___int_int_ h297) .nil) ?_
        rcases oif h294 with ⟨h298, h294⟩ | ⟨h298, h294⟩
        · refine Wc.condT h298 (by kernel_rfl) ?_
          obtain ⟨h299, h294⟩ := oguard h294
          refine Wc.region [{ tk := [6] }, {}, { c := some (List.map cI.i64 [b266_]) }, { c := some (List.map cI.i64 (l263_ ++ [b266_])), tk := [19], md := 2 }, { tk := [22] }] [] [2, 6, 9, 10, 11] [2] [] ⟨[(2, (.ptr 2 0, [])), (6, (.v (.slx), [(0, .ex 3 true (List.map cI.i64 (l263_ ++ [b266_])))])), (9, (.v (.sl (List.map cI.i64 l262_)), [])), (10, (.v (.int .i64 (l262_.length : Int)), [])), (11, (.v (.int .i64 b264_), []))], [(2, .cells [.int .i64 c261_.gKind, .str c261_.gName, .int .i64 c261_.gNum, .sl (List.map GTerm.c c261_.gKids)] [])], []⟩ _ (by kernel_rfl) (.cons (cl_cons (c := cI.i64) (x := b266_) rfl (cl_nil cI.i64)) (.cons (app_re2 cI.i64 l263_ [b266_]) (.cons (app_scal (c := cI.i64) (ys := [b266_]) cI.i64_scal) (.cons (app_obl2 (c := cI.i64) (xs := l263_) (ys := [b266_]) cI.i64_len h299) .nil)))) ?_
          refine Wc.region [] [] [2, 6, 9, 10, 11] [2] [] ⟨[(2, (.ptr 2 0, [])), (6, (.v (.slx), [(0, .ex 3 true (List.map cI.i64 (l263_ ++ [b266_])))])), (9, (.v (.sl (List.map cI.i64 l262_)), [])), (10, (.v (.int .i64 (l262_.length : Int)), [])), (11, (.v (.int .i64 (wr.i64 (b264_ + 1))), []))], [(2, .cells [.int .i64 c261_.gKind, .str c261_.gName, .int .i64 c261_.gNum, .sl (List.map GTerm.c c261_.gKids)] [])], []⟩ _ (by kernel_rfl) .nil ?_
          exact ⟨_, Nat.lt_succ_self _, _, _, rfl, h294⟩
        · refine Wc.condF h298 (by kernel_rfl) ?_
          refine Wc.fix (st' := ⟨[(2, (.ptr 2 0, [])), (6, (.v (.slx), [(0, .ex 3 true (List.map cI.i64 l263_))])), (9, (.v (.sl (List.map cI.i64 l262_)), [])), (10, (.v (.int .i64 (l262_.length : Int)), [])), (11, (.v (.int .i64 b264_), []))], [(2, .cells [.int .i64 c261_.gKind, .str c261_.gName, .int .i64 c261_.gNum, .sl (List.map GTerm.c c261_.gKids)] [])], []⟩) [] [2, 6, 9, 10, 11] [2] [] (by kernel_rfl) ?_
          refine Wc.skip ?_
          refine Wc.region [] [] [2, 6, 9, 10, 11] [2] [] ⟨[(2, (.ptr 2 0, [])), (6, (.v (.slx), [(0, .ex 3 true (List.map cI.i64 l263_))])), (9, (.v (.sl (List.map cI.i64 l262_)), [])), (10, (.v (.int .i64 (l262_.length : Int)), [])), (11, (.v (.int .i64 (wr.i64 (b264_ + 1))), []))], [(2, .cells [.int .i64 c261_.gKind, .str c261_.gName, .int .i64 c261_.gNum, .sl (List.map GTerm.c c261_.gKids)] [])], []⟩ _ (by kernel_rfl) .nil ?_
          exact ⟨_, Nat.lt_succ_self _, _, _, rfl, h294⟩
      · refine Wc.condF h295 (by kernel_rfl) ?_
        refine Wc.fix (st' := ⟨[(2, (.ptr 2 0, [])), (6, (.v (.slx), [(0, .ex 3 true (List.map cI.i64 l263_))]))], [(2, .cells [.int .i64 c261_.gKind, .str c261_.gName, .int .i64 c261_.gNum, .sl (List.map GTerm.c c261_.gKids)] [])], []⟩) [] [2, 6] [2] [] (by kernel_rfl) ?_
        refine Wc.exit ?_
        obtain rfl := Option.some.inj h294
        exact ⟨_, rfl, rfl⟩
  · rintro st ⟨l265_, rfl, rfl⟩
    refine Wc.seq ?_
    refine Wc.seq ?_
    obtain ⟨e268_, h300, h⟩ := obind h
    refine Wc.region [{}, { r := some (.v (.bool e268_) []) }] [] [2, 6, 26] [2] [] ⟨[(2, (.ptr 2 0, [])), (6, (.v (.slx), [(0, .ex 3 true (List.map cI.i64 l265_))])), (26, (.v (.bool (!e268_)), []))], [(2, .cells [.int .i64 c261_.gKind, .str c261_.gName, .int .i64 c261_.gNum, .sl (List.map GTerm.c c261_.gKids)] [])], []⟩ _ (by kernel_rfl) (.cons (cimpl_TermOk h300) .nil) ?_
    rcases oif h with ⟨h301, h⟩ | ⟨h301, h⟩
    · refine Wc.condT h301 (by kernel_rfl) ?_
      refine Wc.seq ?_
      refine Wc.region [{ tk := [6] }, {}, { tk := [27] }] [] [4, 5] [] [] ⟨[(4, (.v (.sl (List.map GIns.c [])), [(0, .app 97)])), (5, (.v (.slx), [(0, .ex 3 true (List.map cI.i64 l265_))]))], [], []⟩ _ (by kernel_rfl) .nil ?_
      refine Wc.fix (st' := ⟨[(4, (.v (.slx), [(0, .ex 97 true (List.map GIns.c []))])), (5, (.v (.slx), [(0, .ex 3 true (List.map cI.i64 l265_))]))], [], []⟩) [.ow (.t 4 0) true] [4, 5] [] [] (by kernel_rfl) ?_
      refine Wc.ret ?_
      obtain rfl := Option.some.inj h
      exact ⟨.inl rfl, by kernel_rfl, by kernel_rfl⟩
    · refine Wc.condF h301 (by kernel_rfl) ?_
      refine Wc.fix (st' := ⟨[(2, (.ptr 2 0, [])), (6, (.v (.slx), [(0, .ex 3 true (List.map cI.i64 l265_))]))], [(2, .cells [.int .i64 c261_.gKind, .str c261_.gName, .int .i64 c261_.gNum, .sl (List.map GTerm.c c261_.gKids)] [])], []⟩) [] [2, 6] [2] [] (by kernel_rfl) ?_
      refine Wc.skip ?_
      refine Wc.seq ?_
      obtain ⟨m269_, h302, h⟩ := obind h
      refine Wc.region [{}, { tk := [6] }, { tk := [29], r := some (.v (.tup [.slx, .slx]) [(0, .ex 97 true (List.map GIns.c m269_.1)), (1, .ex 3 true (List.map cI.i64 m269_.2))]) }, { tk := [30] }, { tk := [30] }, { tk := [31] }, { tk := [32] }] [] [4, 5] [] [] ⟨[(4, (.v (.slx), [(0, .ex 97 true (List.map GIns.c m269_.1))])), (5, (.v (.slx), [(0, .ex 3 true (List.map cI.i64 m269_.2))]))], [], []⟩ _ (by kernel_rfl) (.cons (cimpl_wordsOf_d h302) .nil) ?_
      refine Wc.ret ?_
      obtain rfl := Option.some.inj h
      exact ⟨.inl rfl, by kernel_rfl, by kernel_rfl⟩

/-- laws.FnExactWordsOf -/
def plaws_FnExactWordsOf (k : Nat) (c244_ : GTerm) (l245_ : List Int) : Option Bool :=
  if (decide ((l245_.length : Int) > 1048576)) = true then
    some true
  else
    (plaws_szTerm k c244_ 1048576).bind fun b246_ =>
    if (decide (b246_ < 0)) = true then
      some true
    else
      (plaws_toTerm k c244_).bind fun c247_ =>
      (plaws_toIntS k l245_).bind fun n248_ =>
      (pspec_WordsOf k c247_ n248_).bind fun m249_ =>
      (plaws_toTerm_d k c244_).bind fun c250_ =>
      (plaws_toIntS_d k l245_).bind fun n251_ =>
      (pimpl_WordsOf_d k c250_ n251_).bind fun m252_ =>
      (plaws_eqInsS k m252_.1 m249_.1).bind fun e253_ =>
      if (!e253_) = true then
        some false
      else
        (plaws_eqIntS k m252_.2 m249_.2).bind fun e254_ =>
        if (!e254_) = true then
          some false
        else
          (plaws_toTerm k c244_).bind fun c255_ =>
          (plaws_eqTerm k c250_ c255_).bind fun e256_ =>
          if (!e256_) = true then
            some false
          else
            (plaws_toIntS k l245_).bind fun n257_ =>
            (plaws_eqIntS k n251_ n257_).bind fun e258_ =>
            if (!e258_) = true then
              some false
            else
              (plaws_markTerm k c250_ 1).bind fun o259_ =>
              (plaws_markIntS k n251_ o259_.2).bind fun p260_ =>
              if (decide (p260_.2 < 0)) = true then
                some false
              else
                (plaws_eqInsS k m252_.1 m249_.1).bind fun e261_ =>
                if (!e261_) = true then
                  some false
                else
                  (plaws_eqIntS k m252_.2 m249_.2).bind fun e262_ =>
                  if (!e262_) = true then
                    some false
                  else
                    (plaws_markInsS k m252_.1 1).bind fun q263_ =>
                    (plaws_markIntS k m252_.2 q263_.2).bind fun p264_ =>
                    (plaws_heldInsS k q263_.1 1).bind fun b265_ =>
                    if (decide (b265_ < 0)) = true then
                      some false
                    else
                      (plaws_heldIntS k p264_.1 b265_).bind fun b266_ =>
                      if (decide (b266_ < 0)) = true then
                        some false
                      else
                        if (b266_ != p264_.2) = true then
                          some false
                        else
                          (plaws_toTerm k c244_).bind fun c267_ =>
                          (plaws_toIntS k l245_).bind fun n268_ =>
                          (pimpl_WordsOf k c267_ n268_).bind fun m269_ =>
                          (plaws_eqInsS k m269_.1 m249_.1).bind fun e270_ =>
                          if (!e270_) = true then
                            some false
                          else
                            (plaws_eqIntS k m269_.2 m249_.2).bind fun e271_ =>
                            if (!e271_) = true then
                              some false
                            else
                              (plaws_heldInsS k q263_.1 1).bind fun b272_ =>
                              if (decide (b272_ < 0)) = true then
                                some false
                              else
                                (plaws_heldIntS k p264_.1 b272_).bind fun b273_ =>
                                if (decide (b273_ < 0)) = true then
                                  some false
                                else
                                  if (b273_ != p264_.2) = true then
                                    some false
                                  else
                                    some true
theorem claws_FnExactWordsOf {k : Nat} {c244_ : GTerm} {l245_ : List Int} {r : Bool} (h : plaws_FnExactWordsOf k c244_ l245_ = some r) : FnO Try.prog 6 [.v (.agg [.int .i64 c244_.gKind, .str c244_.gName, .int .i64 c244_.gNum, .sl (List.map GTerm.c c244_.gKids)]) [], .v (.sl (List.map cI.i64 l245_)) []] (.v (.bool r) []) [] := by
  refine FnO.of Try.func6 (rfl : Try.f6.body = some _) (Nat.le_of_ble_eq_true (by kernel_rfl)) (Nat.le_of_ble_eq_true (by kernel_rfl)) ?_
  intro w0 X0 Fin pv0 pb
  unfold plaws_FnExactWordsOf at h
  refine Wc.seq ?_
  refine Wc.region [] [] [1, 2] [2] [] ⟨[(1, (.v (.sl (List.map cI.i64 l245_)), [])), (2, (.ptr 2 0, []))], [(2, .cells [.int .i64 c244_.gKind, .str c244_.gName, .int .i64 c244_.gNum, .sl (List.map GTerm.c c244_.gKids)] [])], []⟩ _ (by kernel_rfl) .nil ?_
  refine Wc.seq ?_
  refine Wc.seq ?_
  refine Wc.region [{}, { v := some (.int .i64 (l245_.length : Int)) }] [] [1, 2, 19] [2] [] ⟨[(1, (.v (.sl (List.map cI.i64 l245_)), [])), (2, (.ptr 2 0, [])), (19, (.v (.bool (decide ((l245_.length : Int) > 1048576))), []))], [(2, .cells [.int .i64 c244_.gKind, .str c244_.gName, .int .i64 c244_.gNum, .sl (List.map GTerm.c c244_.gKids)] [])], []⟩ _ (by kernel_rfl) (.cons (len_obl cI.i64 l245_) .nil) ?_
  rcases oif h with ⟨h277, h⟩ | ⟨h277, h⟩
  · refine Wc.condT h277 (by kernel_rfl) ?_
    refine Wc.seq ?_
    refine Wc.region [] [] [4] [] [] ⟨[(4, (.v (.bool true), []))], [], []⟩ _ (by kernel_rfl) .nil ?_
    refine Wc.ret ?_
    obtain rfl := Option.some.inj h
    exact ⟨.inl rfl, by kernel_rfl, by kernel_rfl⟩
  · refine Wc.condF h277 (by kernel_rfl) ?_
    refine Wc.fix (st' := ⟨[(1, (.v (.sl (List.map cI.i64 l245_)), [])), (2, (.ptr 2 0, []))], [(2, .cells [.int .i64 c244_.gKind, .str c244_.gName, .int .i64 c244_.gNum, .sl (List.map GTerm.c c244_.gKids)] [])], []⟩) [] [1, 2] [2] [] (by kernel_rfl) ?_
    refine Wc.skip ?_
    refine Wc.seq ?_
    refine Wc.region [] [] [1, 2, 5] [2] [] ⟨[(1, (.v (.sl (List.map cI.i64 l245_)), [])), (2, (.ptr 2 0, [])), (5, (.v (.int .i64 1048576), []))], [(2, .cells [.int .i64 c244_.gKind, .str c244_.gName, .int .i64 c244_.gNum, .sl (List.map GTerm.c c244_.gKids)] [])], []⟩ _ (by kernel_rfl) .nil ?_
    refine Wc.seq ?_
    obtain ⟨b246_, h278, h⟩ := obind h
    refine Wc.region [{}, {}, { r := some (.v (.int .i64 b246_) []) }] [] [1, 2, 5] [2] [] ⟨[(1, (.v (.sl (List.map cI.i64 l245_)), [])), (2, (.ptr 2 0, [])), (5, (.v (.int .i64 b246_), []))], [(2, .cells [.int .i64 c244_.gKind, .str c244_.gName, .int .i64 c244_.gNum, .sl (List.map GTerm.c c244_.gKids)] [])], []⟩ _ (by kernel_rfl) (.cons (claws_szTerm h278) .nil) ?_
    refine Wc.seq ?_
    refine Wc.seq ?_
    refine Wc.region [] [] [1, 2, 24] [2] [] ⟨[(1, (.v (.sl (List.map cI.i64 l245_)), [])), (2, (.ptr 2 0, [])), (24, (.v (.bool (decide (b246_ < 0))), []))], [(2, .cells [.int .i64 c244_.gKind, .str c244_.gName, .int .i64 c244_.gNum, .sl (List.map GTerm.c c244_.gKids)] [])], []⟩ _ (by kernel_rfl) .nil ?_
    rcases oif h with ⟨h279, h⟩ | ⟨h279, h⟩
    · refine Wc.condT h279 (by kernel_rfl) ?_
      refine Wc.seq ?_
      refine Wc.region [] [] [4] [] [] ⟨[(4, (.v (.bool true), []))], [], []⟩ _ (by kernel_rfl) .nil ?_
      refine Wc.ret ?_
      obtain rfl := Option.some.inj h
      exact ⟨.inl rfl, by kernel_rfl, by kernel_rfl⟩
    · refine Wc.condF h279 (by kernel_rfl) ?_
      refine Wc.fix (st' := ⟨[(1, (.v (.sl (List.map cI.i64 l245_)), [])), (2, (.ptr 2 0, []))], [(2, .cells [.int .i64 c244_.gKind, .str c244_.gName, .int .i64 c244_.gNum, .sl (List.map GTerm.c c244_.gKids)] [])], []⟩) [] [1, 2] [2] [] (by kernel_rfl) ?_
      refine Wc.skip ?_
      refine Wc.seq ?_
      obtain ⟨c247_, h280, h⟩ := obind h
      obtain ⟨n248_, h281, h⟩ := obind h
      obtain ⟨m249_, h282, h⟩ := obind h
      refine Wc.region [{}, { r := some (.v (.agg [.int .i64 c247_.gKind, .str c247_.gName, .int .i64 c247_.gNum, .sl (List.map GTerm.c c247_.gKids)]) []) }, {}, { r := some (.v (.sl (List.map cI.i64 n248_)) []) }, { r := some (.v (.tup [.sl (List.map GIns.c m249_.1), .sl (List.map cI.i64 m249_.2)]) []) }] [] [1, 2, 6, 7] [2] [] ⟨[(1, (.v (.sl (List.map cI.i64 l245_)), [])), (2, (.ptr 2 0, [])), (6, (.v (.sl (List.map GIns.c m249_.1)), [])), (7, (.v (.sl (List.map cI.i64 m249_.2)), []))], [(2, .cells [.int .i64 c244_.gKind, .str c244_.gName, .int .i64 c244_.gNum, .sl (List.map GTerm.c c244_.gKids)] [])], []⟩ _ (by kernel_rfl) (.cons (claws_toTerm h280) (.cons (claws_toIntS h281) (.cons (cspec_WordsOf h282) .nil))) ?_
      refine Wc.seq ?_
      obtain ⟨c250_, h283, h⟩ := obind h
      refine Wc.region [{}, { r := some (.v (.agg [.int .i64 c250_.gKind, .str c250_.gName, .int .i64 c250_.gNum, .slx]) [(3, .ex 37 true (List.map GTerm.c c250_.gKids))]) }, {}, { tk := [34] }] [] [1, 2, 6, 7, 8] [2, 8] [] ⟨[(1, (.v (.sl (List.map cI.i64 l245_)), [])), (2, (.ptr 2 0, [])), (6, (.v (.sl (List.map GIns.c m249_.1)), [])), (7, (.v (.sl (List.map cI.i64 m249_.2)), [])), (8, (.ptr 8 0, []))], [(2, .cells [.int .i64 c244_.gKind, .str c244_.gName, .int .i64 c244_.gNum, .sl (List.map GTerm.c c244_.gKids)] []), (8, .cells [.int .i64 c250_.gKind, .str c250_.gName, .int .i64 c250_.gNum, .slx] [(3, .ex 37 true (List.map GTerm.c c250_.gKids))])], []⟩ _ (by kernel_rfl) (.cons (claws_toTerm_d h283) .nil) ?_
      refine Wc.seq ?_
      obtain ⟨n251_, h284, h⟩ := obind h
      refine Wc.region [{}, { r := some (.v (.slx) [(0, .ex 3 true (List.map cI.i64 n251_))]) }, { tk := [36] }] [] [1, 2, 6, 7, 8, 9] [2, 8] [] ⟨[(1, (.v (.sl (List.map cI.i64 l245_)), [])), (2, (.ptr 2 0, [])), (6, (.v (.sl (List.map GIns.c m249_.1)), [])), (7, (.v (.sl (List.map cI.i64 m249_.2)), [])), (8, (.ptr 8 0, [])), (9, (.v (.slx), [(0, .ex 3 true (List.map cI.i64 n251_))]))], [(2, .cells [.int .i64 c244_.gKind, .str c244_.gName, .int .i64 c244_.gNum, .sl (List.map GTerm.c c244_.gKids)] []), (8, .cells [.int .i64 c250_.gKind, .str c250_.gName, .int .i64 c250_.gNum, .slx] [(3, .ex 37 true (List.map GTerm.c c250_.gKids))])], []⟩ _ (by kernel_rfl) (.cons (claws_toIntS_d h284) .nil) ?_
      refine Wc.seq ?_
      obtain ⟨m252_, h285, h⟩ := obind h
      refine Wc.region [{}, {}, { r := some (.v (.tup [.slx, .slx]) [(0, .ex 97 true (List.map GIns.c m252_.1)), (1, .ex 3 true (List.map cI.i64 m252_.2))]) }, { tk := [40] }, { tk := [37] }, { tk := [37] }, { tk := [41] }, { tk := [42] }] [] [1, 2, 6, 7, 8, 9, 10, 11] [2, 8] [] ⟨[(1, (.v (.sl (List.map cI.i64 l245_)), [])), (2, (.ptr 2 0, [])), (6, (.v (.sl (List.map GIns.c m249_.1)), [])), (7, (.v (.sl (List.map cI.i64 m249_.2)), [])), (8, (.ptr 8 0, [])), (9, (.v (.slx), [(0, .ex 3 true (List.map cI.i64 n251_))])), (10, (.v (.slx), [(0, .ex 97 true (List.map GIns.c m252_.1))])), (11, (.v (.slx), [(0, .ex 3 true (List.map cI.i64 m252_.2))]))], [(2, .cells [.int .i64 c244_.gKind, .str c244_.gName, .int .i64 c244_.gNum, .sl (List.map GTerm.c c244_.gKids)] []), (8, .cells [.int .i64 c250_.gKind, .str c250_.gName, .int .i64 c250_.gNum, .slx] [(3, .ex 37 true (List.map GTerm.c c250_.gKids))])], []⟩ _ (by kernel_rfl) (.cons (cimpl_WordsOf_d h285) .nil) ?_
      refine Wc.seq ?_
      refine Wc.seq ?_
      obtain ⟨e253_, h286, h⟩ := obind h
      rcases oif h with ⟨h287, h⟩ | ⟨h287, h⟩
      · refine Wc.region [{}, {}, { r := some (.v (.bool e253_) []) }, {}, { re := some (.bool true) }] [] [1, 2, 6, 7, 8, 9, 10, 11, 52] [2, 8] [] ⟨[(1, (.v (.sl (List.map cI.i64 l245_)), [])), (2, (.ptr 2 0, [])), (6, (.v (.sl (List.map GIns.c m249_.1)), [])), (7, (.v (.sl (List.map cI.i64 m249_.2)), [])), (8, (.ptr 8 0, [])), (9, (.v (.slx), [(0, .ex 3 true (List.map cI.i64 n251_))])), (10, (.v (.slx), [(0, .ex 97 true (List.map GIns.c m252_.1))])), (11, (.v (.slx), [(0, .ex 3 true (List.map cI.i64 m252_.2))])), (52, (.v (.bool true), []))], [(2, .cells [.int .i64 c244_.gKind, .str c244_.gName, .int .i64 c244_.gNum, .sl (List.map GTerm.c c244_.gKids)] []), (8, .cells [.int .i64 c250_.gKind, .str c250_.gName, .int .i64 c250_.gNum, .slx] [(3, .ex 37 true (List.map GTerm.c c250_.gKids))])], []⟩ _ (by kernel_rfl) (.cons (claws_eqInsS h286) (.cons (congrArg AV.bool h287) .nil)) ?_
        refine Wc.condT rfl (by kernel_rfl) ?_
        refine Wc.seq ?_
        refine Wc.region [] [] [4] [] [] ⟨[(4, (.v (.bool false), []))], [], []⟩ _ (by kernel_rfl) .nil ?_
        refine Wc.ret ?_
        obtain rfl := Option.some.inj h
        exact ⟨.inl rfl, by kernel_rfl, by kernel_rfl⟩
      · obtain ⟨e254_, h288, h⟩ := obind h
        refine Wc.region [{}, {}, { r := some (.v (.bool e253_) []) }, {}, { re := some (.bool false) }, {}, {}, { r := some (.v (.bool e254_) []) }] [] [1, 2, 6, 7, 8, 9, 10, 11, 52] [2, 8] [] ⟨[(1, (.v (.sl (List.map cI.i64 l245_)), [])), (2, (.ptr 2 0, [])), (6, (.v (.sl (List.map GIns.c m249_.1)), [])), (7, (.v (.sl (List.map cI.i64 m249_.2)), [])), (8, (.ptr 8 0, [])), (9, (.v (.slx), [(0, .ex 3 true (List.map cI.i64 n251_))])), (10, (.v (.slx), [(0, .ex 97 true (List.map GIns.c m252_.1))])), (11, (.v (.slx), [(0, .ex 3 true (List.map cI.i64 m252_.2))])), (52, (.v (.bool (!e254_)), []))], [(2, .cells [.int .i64 c244_.gKind, .str c244_.gName, .int .i64 c244_.gNum, .sl (List.map GTerm.c c244_.gKids)] []), (8, .cells [.int .i64 c250_.gKind, .str c250_.gName, .int .i64 c250_.gNum, .slx] [(3, .ex 37 true (List.map GTerm.c c250_.gKids))])], []⟩ _ (by kernel_rfl) (.cons (claws_eqInsS h286) (.cons (congrArg AV.bool h287) (.cons (claws_eqIntS h288) .nil))) ?_
        rcases oif h with ⟨h289, h⟩ | ⟨h289, h⟩
        · refine Wc.condT h289 (by kernel_rfl) ?_
          refine Wc.seq ?_
          refine Wc.region [] [] [4] [] [] ⟨[(4, (.v (.bool false), []))], [], []⟩ _ (by kernel_rfl) .nil ?_
          refine Wc.ret ?_
          obtain rfl := Option.some.inj h
          exact ⟨.inl rfl, by kernel_rfl, by kernel_rfl⟩
        · refine Wc.condF h289 (by kernel_rfl) ?_
          refine Wc.fix (st' := ⟨[(1, (.v (.sl (List.map cI.i64 l245_)), [])), (2, (.ptr 2 0, [])), (6, (.v (.sl (List.map GIns.c m249_.1)), [])), (7, (.v (.sl (List.map cI.i64 m249_.2)), [])), (8, (.ptr 8 0, [])), (9, (.v (.slx), [(0, .ex 3 true (List.map cI.i64 n251_))])), (10, (.v (.slx), [(0, .ex 97 true (List.map GIns.c m252_.1))])), (11, (.v (.slx), [(0, .ex 3 true (List.map cI.i64 m252_.2))]))], [(2, .cells [.int .i64 c244_.gKind, .str c244_.gName, .int .i64 c244_.gNum, .sl (List.map GTerm.c c244_.gKids)] []), (8, .cells [.int .i64 c250_.gKind, .str c250_.gName, .int .i64 c250_.gNum, .slx] [(3, .ex 37 true (List.map GTerm.c c250_.gKids))])], []⟩) [] [1, 2, 6, 7, 8, 9, 10, 11] [2, 8] [] (by kernel_rfl) ?_
          refine Wc.skip ?_
          refine Wc.seq ?_
          refine Wc.seq ?_
          obtain ⟨c255_, h290, h⟩ := obind h
          obtain ⟨e256_, h291, h⟩ := obind h
          refine Wc.draw hmix [{}, {}, { r := some (.v (.agg [.int .i64 c255_.gKind, .str c255_.gName, .int .i64 c255_.gNum, .sl (List.map GTerm.c c255_.gKids)]) []) }, { r := some (.v (.bool e256_) []) }] [] [1, 2, 6, 7, 8, 9, 10, 11, 57] [2, 8] [] ⟨[(1, (.v (.sl (List.map cI.i64 l245_)), [])), (2, (.ptr 2 0, [])), (6, (.v (.sl (List.map GIns.c m249_.1)), [])), (7, (.v (.sl (List.map cI.i64 m249_.2)), [])), (8, (.ptr 8 0, [])), (9, (.v (.slx), [(0, .ex 3 true (List.map cI.i64 n251_))])), (10, (.v (.slx), [(0, .ex 97 true (List.map GIns.c m252_.1))])), (11, (.v (.slx), [(0, .ex 3 true (List.map cI.i64 m252_.2))])), (57, (.v (.bool (!e256_)), []))], [(2, .cells [.int .i64 c244_.gKind, .str c244_.gName, .int .i64 c244_.gNum, .sl (List.map GTerm.c c244_.gKids)] []), (8, .cells [.int .i64 c250_.gKind, .str c250_.gName, .int .i64 c250_.gNum, .slx] [(3, .ex 37 true (List.map GTerm.c c250_.gKids))])], []⟩ _ (by kernel_rfl) (fun X => by kernel_rfl) (.cons (claws_toTerm h290) (.cons (claws_eqTerm h291) .nil)) ?_
          rcases oif h with ⟨h292, h⟩ | ⟨h292, h⟩
          · refine Wc.condT h292 (by kernel_rfl) ?_
            refine Wc.seq ?_
            refine Wc.region [] [] [4] [] [] ⟨[(4, (.v (.bool false), []))], [], []⟩ _ (by kernel_rfl) .nil ?_
            refine Wc.ret ?_
            obtain rfl := Option.some.inj h
            exact ⟨.inl rfl, by kernel_rfl, by kernel_rfl⟩
          · refine Wc.condF h292 (by kernel_rfl) ?_
            refine Wc.fix (st' := ⟨[(1, (.v (.sl (List.map cI.i64 l245_)), [])), (2, (.ptr 2 0, [])), (6, (.v (.sl (List.map GIns.c m249_.1)), [])), (7, (.v (.sl (List.map cI.i64 m249_.2)), [])), (8, (.ptr 8 0, [])), (9, (.v (.slx), [(0, .ex 3 true (List.map cI.i64 n251_))])), (10, (.v (.slx), [(0, .ex 97 true (List.map GIns.c m252_.1))])), (11, (.v (.slx), [(0, .ex 3 true (List.map cI.i64 m252_.2))]))], [(2, .cells [.int .i64 c244_.gKind, .str c244_.gName, .int .i64 c244_.gNum, .sl (List.map GTerm.c c244_.gKids)] []), (8, .cells [.int .i64 c250_.gKind, .str c250_.gName, .int .i64 c250_.gNum, .slx] [(3, .ex 37 true (List.map GTerm.c c250_.gKids))])], []⟩) [] [1, 2, 6, 7, 8, 9, 10, 11] [2, 8] [] (by kernel_rfl) ?_
            refine Wc.skip ?_
            refine Wc.seq ?_
            refine Wc.seq ?_
            obtain ⟨n257_, h293, h⟩ := obind h
            obtain ⟨e258_, h294, h⟩ := obind h
            refine Wc.region [{}, {}, { r := some (.v (.sl (List.map cI.i64 n257_)) []) }, { r := some (.v (.bool e258_) []) }] [] [1, 2, 6, 7, 8, 9, 10, 11, 62] [2, 8] [] ⟨[(1, (.v (.sl (List.map cI.i64 l245_)), [])), (2, (.ptr 2 0, [])), (6, (.v (.sl (List.map GIns.c m249_.1)), [])), (7, (.v (.sl (List.map cI.i64 m249_.2)), [])), (8, (.ptr 8 0, [])), (9, (.v (.slx), [(0, .ex 3 true (List.map cI.i64 n251_))])), (10, (.v (.slx), [(0, .ex 97 true (List.map GIns.c m252_.1))])), (11, (.v (.slx), [(0, .ex 3 true (List.map cI.i64 m252_.2))])), (62, (.v (.bool (!e258_)), []))], [(2, .cells [.int .i64 c244_.gKind, .str c244_.gName, .int .i64 c244_.gNum, .sl (List.map GTerm.c c244_.gKids)] []), (8, .cells [.int .i64 c250_.gKind, .str c250_.gName, .int .i64 c250_.gNum, .slx] [(3, .ex 37 true (List.map GTerm.c c250_.gKids))])], []⟩ _ (by kernel_rfl) (.cons (claws_toIntS h293) (.cons (claws_eqIntS h294) .nil)) ?_
            rcases oif h with ⟨h295, h⟩ | ⟨h295, h⟩
            · refine Wc.condT h295 (by kernel_rfl) ?_
              refine Wc.seq ?_
              refine Wc.region [] [] [4] [] [] ⟨[(4, (.v (.bool false), []))], [], []⟩ _ (by kernel_rfl) .nil ?_
              refine Wc.ret ?_
              obtain rfl := Option.some.inj h
              exact ⟨.inl rfl, by kernel_rfl, by kernel_rfl⟩
            · refine Wc.condF h295 (by kernel_rfl) ?_
              refine Wc.fix (st' := ⟨[(1, (.v (.sl (List.map cI.i64 l245_)), [])), (2, (.ptr 2 0, [])), (6, (.v (.sl (List.map GIns.c m249_.1)), [])), (7, (.v (.sl (List.map cI.i64 m249_.2)), [])), (8, (.ptr 8 0, [])), (9, (.v (.slx), [(0, .ex 3 true (List.map cI.i64 n251_))])), (10, (.v (.slx), [(0, .ex 97 true (List.map GIns.c m252_.1))])), (11, (.v (.slx), [(0, .ex 3 true (List.map cI.i64 m252_.2))]))], [(2, .cells [.int .i64 c244_.gKind, .str c244_.gName, .int .i64 c244_.gNum, .sl (List.map GTerm.c c244_.gKids)] []), (8, .cells [.int .i64 c250_.gKind, .str c250_.gName, .int .i64 c250_.gNum, .slx] [(3, .ex 37 true (List.map GTerm.c c250_.gKids))])], []⟩) [] [1, 2, 6, 7, 8, 9, 10, 11] [2, 8] [] (by kernel_rfl) ?_
              refine Wc.skip ?_
              refine Wc.seq ?_
              refine Wc.region [] [] [1, 2, 6, 7, 8, 9, 10, 11, 12] [2, 8] [] ⟨[(1, (.v (.sl (List.map cI.i64 l245_)), [])), (2, (.ptr 2 0, [])), (6, (.v (.sl (List.map GIns.c m249_.1)), [])), (7, (.v (.sl (List.map cI.i64 m249_.2)), [])), (8, (.ptr 8 0, [])), (9, (.v (.slx), [(0, .ex 3 true (List.map cI.i64 n251_))])), (10, (.v (.slx), [(0, .ex 97 true (List.map GIns.c m252_.1))])), (11, (.v (.slx), [(0, .ex 3 true (List.map cI.i64 m252_.2))])), (12, (.v (.int .i64 1), []))], [(2, .cells [.int .i64 c244_.gKind, .str c244_.gName, .int .i64 c244_.gNum, .sl (List.map GTerm.c c244_.gKids)] []), (8, .cells [.int .i64 c250_.gKind, .str c250_.gName, .int .i64 c250_.gNum, .slx] [(3, .ex 37 true (List.map GTerm.c c250_.gKids))])], []⟩ _ (by kernel_rfl) .nil ?_
              refine Wc.seq ?_
              obtain ⟨o259_, h296, h⟩ := obind h
              refine Wc.region [{}, {}, { io := [0], r := some (.v (.int .i64 o259_.2) []), outs := [(0, .v .undef [(3, .ex 1000000007 true (List.map GTerm.c o259_.1.gKids))])] }] [] [1, 2, 6, 7, 9, 10, 11, 12] [2] [] ⟨[(1, (.v (.sl (List.map cI.i64 l245_)), [])), (2, (.ptr 2 0, [])), (6, (.v (.sl (List.map GIns.c m249_.1)), [])), (7, (.v (.sl (List.map cI.i64 m249_.2)), [])), (9, (.v (.slx), [(0, .ex 3 true (List.map cI.i64 n251_))])), (10, (.v (.slx), [(0, .ex 97 true (List.map GIns.c m252_.1))])), (11, (.v (.slx), [(0, .ex 3 true (List.map cI.i64 m252_.2))])), (12, (.v (.int .i64 o259_.2), []))], [(2, .cells [.int .i64 c244_.gKind, .str c244_.gName, .int .i64 c244_.gNum, .sl (List.map GTerm.c c244_.gKids)] [])], []⟩ _ (by kernel_rfl) (.cons (FnO.any (args := [.io (.agg [.int .i64 c250_.gKind, .str c250_.gName, .int .i64 c250_.gNum, .slx]) [(3, .ex 37 true (List.map GTerm.c c250_.gKids))], .v (.int .i64 1) []]) (claws_markTerm h296)) .nil) ?_
              refine Wc.seq ?_
              obtain ⟨p260_, h297, h⟩ := obind h
              refine Wc.region [{}, {}, { io := [0], r := some (.v (.int .i64 p260_.2) []), outs := [(0, .v .undef [(0, .ex 1000000007 true (List.map cI.i64 p260_.1))])] }] [] [1, 2, 6, 7, 10, 11, 12] [2] [] ⟨[(1, (.v (.sl (List.map cI.i64 l245_)), [])), (2, (.ptr 2 0, [])), (6, (.v (.sl (List.map GIns.c m249_.1)), [])), (7, (.v (.sl (List.map cI.i64 m249_.2)), [])), (10, (.v (.slx), [(0, .ex 97 true (List.map GIns.c m252_.1))])), (11, (.v (.slx), [(0, .ex 3 true (List.map cI.i64 m252_.2))])), (12, (.v (.int .i64 p260_.2), []))], [(2, .cells [.int .i64 c244_.gKind, .str c244_.gName, .int .i64 c244_.gNum, .sl (List.map GTerm.c c244_.gKids)] [])], []⟩ _ (by kernel_rfl) (.cons (FnO.any (args := [.io (.slx) [(0, .ex 3 true (List.map cI.i64 n251_))], .v (.int .i64 o259_.2) []]) (claws_markIntS h297)) .nil) ?_
              refine Wc.seq ?_
              refine Wc.seq ?_
              rcases oif h with ⟨h298, h⟩ | ⟨h298, h⟩
              · refine Wc.region [{}, {}, { re := some (.bool true) }] [] [1, 2, 6, 7, 10, 11, 82] [2] [] ⟨[(1, (.v (.sl (List.map cI.i64 l245_)), [])), (2, (.ptr 2 0, [])), (6, (.v (.sl (List.map GIns.c m249_.1)), [])), (7, (.v (.sl (List.map cI.i64 m249_.2)), [])), (10, (.v (.slx), [(0, .ex 97 true (List.map GIns.c m252_.1))])), (11, (.v (.slx), [(0, .ex 3 true (List.map cI.i64 m252_.2))])), (82, (.v (.bool true), []))], [(2, .cells [.int .i64 c244_.gKind, .str c244_.gName, .int .i64 c244_.gNum, .sl (List.map GTerm.c c244_.gKids)] [])], []⟩ _ (by kernel_rfl) (.cons (congrArg AV.bool h298) .nil) ?_
                refine Wc.condT rfl (by kernel_rfl) ?_
                refine Wc.seq ?_
                refine Wc.region [] [] [4] [] [] ⟨[(4, (.v (.bool false), []))], [], []⟩ _ (by kernel_rfl) .nil ?_
                refine Wc.ret ?_
                obtain rfl := Option.some.inj h
                exact ⟨.inl rfl, by kernel_rfl, by kernel_rfl⟩
              · obtain ⟨e261_, h299, h⟩ := obind h
                rcases oif h with ⟨h300, h⟩ | ⟨h300, h⟩
                · refine Wc.region [{}, {}, { re := some (.bool false) }, {}, {}, { r := some (.v (.bool e261_) []) }, {}, {}, { re := some (.bool true) }] [] [1, 2, 6, 7, 10, 11, 82] [2] [] ⟨[(1, (.v (.sl (List.map cI.i64 l245_)), [])), (2, (.ptr 2 0, [])), (6, (.v (.sl (List.map GIns.c m249_.1)), [])), (7, (.v (.sl (List.map cI.i64 m249_.2)), [])), (10, (.v (.slx), [(0, .ex 97 true (List.map GIns.c m252_.1))])), (11, (.v (.slx), [(0, .ex 3 true (List.map cI.i64 m252_.2))])), (82, (.v (.bool true), []))], [(2, .cells [.int .i64 c244_.gKind, .str c244_.gName, .int .i64 c244_.gNum, .sl (List.map GTerm.c c244_.gKids)] [])], []⟩ _ (by kernel_rfl) (.cons (congrArg AV.bool h298) (.cons (claws_eqInsS h299) (.cons (congrArg AV.bool h300) .nil))) ?_
                  refine Wc.condT rfl (by kernel_rfl) ?_
                  refine Wc.seq ?_
                  refine Wc.region [] [] [4] [] [] ⟨[(4, (.v (.bool false), []))], [], []⟩ _ (by kernel_rfl) .nil ?_
                  refine Wc.ret ?_
                  obtain rfl := Option.some.inj h
                  exact ⟨.inl rfl, by kernel_rfl, by kernel_rfl⟩
                · obtain ⟨e262_, h301, h⟩ := obind h
                  refine Wc.region [{}, {}, { re := some (.bool false) }, {}, {}, { r := some (.v (.bool e261_) []) }, {}, {}, { re := some (.bool false) }, {}, {}, { r := some (.v (.bool e262_) []) }] [] [1, 2, 6, 7, 10, 11, 82] [2] [] ⟨[(1, (.v (.sl (List.map cI.i64 l245_)), [])), (2, (.ptr 2 0, [])), (6, (.v (.sl (List.map GIns.c m249_.1)), [])), (7, (.v (.sl (List.map cI.i64 m249_.2)), [])), (10, (.v (.slx), [(0, .ex 97 true (List.map GIns.c m252_.1))])), (11, (.v (.slx), [(0, .ex 3 true (List.map cI.i64 m252_.2))])), (82, (.v (.bool (!e262_)), []))], [(2, .cells [.int .i64 c244_.gKind, .str c244_.gName, .int .i64 c244_.gNum, .sl (List.map GTerm.c c244_.gKids)] [])], []⟩ _ (by kernel_rfl) (.cons (congrArg AV.bool h298) (.cons (claws_eqInsS h299) (.cons (congrArg AV.bool h300) (.cons (claws_eqIntS h301) .nil)))) ?_
                  rcases oif h with ⟨h302, h⟩ | ⟨h302, h⟩
                  · refine Wc.condT h302 (by kernel_rfl) ?_
                    refine Wc.seq ?_
                    refine Wc.region [] [] [4] [] [] ⟨[(4, (.v (.bool false), []))], [], []⟩ _ (by kernel_rfl) .nil ?_
                    refine Wc.ret ?_
                    obtain rfl := Option.some.inj h
                    exact ⟨.inl rfl, by kernel_rfl, by kernel_rfl⟩
                  · refine Wc.condF h302 (by kernel_rfl) ?_
                    refine Wc.fix (st' := ⟨[(1, (.v (.sl (List.map cI.i64 l245_)), [])), (2, (.ptr 2 0, [])), (6, (.v (.sl (List.map GIns.c m249_.1)), [])), (7, (.v (.sl (List.map cI.i64 m249_.2)), [])), (10, (.v (.slx), [(0, .ex 97 true (List.map GIns.c m252_.1))])), (11, (.v (.slx), [(0, .ex 3 true (List.map cI.i64 m252_.2))]))], [(2, .cells [.int .i64 c244_.gKind, .str c244_.gName, .int .i64 c244_.gNum, .sl (List.map GTerm.c c244_.gKids)] [])], []⟩) [] [1, 2, 6, 7, 10, 11] [2] [] (by kernel_rfl) ?_
                    refine Wc.skip ?_
                    refine Wc.seq ?_
                    refine Wc.region [] [] [1, 2, 6, 7, 10, 11, 13] [2] [] ⟨[(1, (.v (.sl (List.map cI.i64 l245_)), [])), (2, (.ptr 2 0, [])), (6, (.v (.sl (List.map GIns.c m249_.1)), [])), (7, (.v (.sl (List.map cI.i64 m249_.2)), [])), (10, (.v (.slx), [(0, .ex 97 true (List.map GIns.c m252_.1))])), (11, (.v (.slx), [(0, .ex 3 true (List.map cI.i64 m252_.2))])), (13, (.v (.int .i64 1), []))], [(2, .cells [.int .i64 c244_.gKind, .str c244_.gName, .int .i64 c244_.gNum, .sl (List.map GTerm.c c244_.gKids)] [])], []⟩ _ (by kernel_rfl) .nil ?_
                    refine Wc.seq ?_
                    obtain ⟨q263_, h303, h⟩ := obind h
                    refine Wc.region [{}, {}, { io := [0], r := some (.v (.int .i64 q263_.2) []), outs := [(0, .v .undef [(0, .ex 1000000007 true (List.map GIns.c q263_.1))])] }] [] [1, 2, 6, 7, 10, 11, 13] [2] [] ⟨[(1, (.v (.sl (List.map cI.i64 l245_)), [])), (2, (.ptr 2 0, [])), (6, (.v (.sl (List.map GIns.c m249_.1)), [])), (7, (.v (.sl (List.map cI.i64 m249_.2)), [])), (10, (.v (.slx), [(0, .ex 1000000007 true (List.map GIns.c q263_.1))])), (11, (.v (.slx), [(0, .ex 3 true (List.map cI.i64 m252_.2))])), (13, (.v (.int .i64 q263_.2), []))], [(2, .cells [.int .i64 c244_.gKind, .str c244_.gName, .int .i64 c244_.gNum, .sl (List.map GTerm.c c244_.gKids)] [])], []⟩ _ (by kernel_rfl) (.cons (FnO.any (args := [.io (.slx) [(0, .ex 97 true (List.map GIns.c m252_.1))], .v (.int .i64 1) []]) (claws_markInsS h303)) .nil) ?_
                    refine Wc.seq ?_
                    obtain ⟨p264_, h304, h⟩ := obind h
                    refine Wc.region [{}, {}, { io := [0], r := some (.v (.int .i64 p264_.2) []), outs := [(0, .v .undef [(0, .ex 1000000007 true (List.map cI.i64 p264_.1))])] }] [] [1, 2, 6, 7, 10, 11, 13] [2] [] ⟨[(1, (.v (.sl (List.map cI.i64 l245_)), [])), (2, (.ptr 2 0, [])), (6, (.v (.sl (List.map GIns.c m249_.1)), [])), (7, (.v (.sl (List.map cI.i64 m249_.2)), [])), (10, (.v (.slx), [(0, .ex 1000000007 true (List.map GIns.c q263_.1))])), (11, (.v (.slx), [(0, .ex 1000000007 true (List.map cI.i64 p264_.1))])), (13, (.v (.int .i64 p264_.2), []))], [(2, .cells [.int .i64 c244_.gKind, .str c244_.gName, .int .i64 c244_.gNum, .sl (List.map GTerm.c c244_.gKids)] [])], []⟩ _ (by kernel_rfl) (.cons (FnO.any (args := [.io (.slx) [(0, .ex 3 true (List.map cI.i64 m252_.2))], .v (.int .i64 q263_.2) []]) (claws_markIntS h304)) .nil) ?_
                    refine Wc.seq ?_
                    refine Wc.region [] [] [1, 2, 6, 7, 10, 11, 13, 14] [2] [] ⟨[(1, (.v (.sl (List.map cI.i64 l245_)), [])), (2, (.ptr 2 0, [])), (6, (.v (.sl (List.map GIns.c m249_.1)), [])), (7, (.v (.sl (List.map cI.i64 m249_.2)), [])), (10, (.v (.slx), [(0, .ex 1000000007 true (List.map GIns.c q263_.1))])), (11, (.v (.slx), [(0, .ex 1000000007 true (List.map cI.i64 p264_.1))])), (13, (.v (.int .i64 p264_.2), [])), (14, (.v (.int .i64 1), []))], [(2, .cells [.int .i64 c244_.gKind, .str c244_.gName, .int .i64 c244_.gNum, .sl (List.map GTerm.c c244_.gKids)] [])], []⟩ _ (by kernel_rfl) .nil ?_
                    refine Wc.seq ?_
                    obtain ⟨b265_, h305, h⟩ := obind h
                    refine Wc.region [{}, {}, { r := some (.v (.int .i64 b265_) []) }] [] [1, 2, 6, 7, 10, 11, 13, 14] [2] [] ⟨[(1, (.v (.sl (List.map cI.i64 l245_)), [])), (2, (.ptr 2 0, [])), (6, (.v (.sl (List.map GIns.c m249_.1)), [])), (7, (.v (.sl (List.map cI.i64 m249_.2)), [])), (10, (.v (.slx), [(0, .ex 1000000007 true (List.map GIns.c q263_.1))])), (11, (.v (.slx), [(0, .ex 1000000007 true (List.map cI.i64 p264_.1))])), (13, (.v (.int .i64 p264_.2), [])), (14, (.v (.int .i64 b265_), []))], [(2, .cells [.int .i64 c244_.gKind, .str c244_.gName, .int .i64 c244_.gNum, .sl (List.map GTerm.c c244_.gKids)] [])], []⟩ _ (by kernel_rfl) (.cons (claws_heldInsS h305) .nil) ?_
                    refine Wc.seq ?_
                    refine Wc.seq ?_
                    refine Wc.region [] [] [1, 2, 6, 7, 10, 11, 13, 14, 93] [2] [] ⟨[(1, (.v (.sl (List.map cI.i64 l245_)), [])), (2, (.ptr 2 0, [])), (6, (.v (.sl (List.map GIns.c m249_.1)), [])), (7, (.v (.sl (List.map cI.i64 m249_.2)), [])), (10, (.v (.slx), [(0, .ex 1000000007 true (List.map GIns.c q263_.1))])), (11, (.v (.slx), [(0, .ex 1000000007 true (List.map cI.i64 p264_.1))])), (13, (.v (.int .i64 p264_.2), [])), (14, (.v (.int .i64 b265_), [])), (93, (.v (.bool (decide (b265_ < 0))), []))], [(2, .cells [.int .i64 c244_.gKind, .str c244_.gName, .int .i64 c244_.gNum, .sl (List.map GTerm.c c244_.gKids)] [])], []⟩ _ (by kernel_rfl) .nil ?_
                    rcases oif h with ⟨h306, h⟩ | ⟨h306, h⟩
                    · refine Wc.condT h306 (by kernel_rfl) ?_
                      refine Wc.seq ?_
                      refine Wc.region [] [] [4] [] [] ⟨[(4, (.v (.bool false), []))], [], []⟩ _ (by kernel_rfl) .nil ?_
                      refine Wc.ret ?_
                      obtain rfl := Option.some.inj h
                      exact ⟨.inl rfl, by kernel_rfl, by kernel_rfl⟩
                    · refine Wc.condF h306 (by kernel_rfl) ?_
                      refine Wc.fix (st' := ⟨[(1, (.v (.sl (List.map cI.i64 l245_)), [])), (2, (.ptr 2 0, [])), (6, (.v (.sl (List.map GIns.c m249_.1)), [])), (7, (.v (.sl (List.map cI.i64 m249_.2)), [])), (10, (.v (.slx), [(0, .ex 1000000007 true (List.map GIns.c q263_.1))])), (11, (.v (.slx), [(0, .ex 1000000007 true (List.map cI.i64 p264_.1))])), (13, (.v (.int .i64 p264_.2), [])), (14, (.v (.int .i64 b265_), []))], [(2, .cells [.int .i64 c244_.gKind, .str c244_.gName, .int .i64 c244_.gNum, .sl (List.map GTerm.c c244_.gKids)] [])], []⟩) [] [1, 2, 6, 7, 10, 11, 13, 14] [2] [] (by kernel_rfl) ?_
                      refine Wc.skip ?_
                      refine Wc.seq ?_
                      obtain ⟨b266_, h307, h⟩ := obind h
                      refine Wc.region [{}, {}, { r := some (.v (.int .i64 b266_) []) }] [] [1, 2, 6, 7, 10, 11, 13, 14] [2] [] ⟨[(1, (.v (.sl (List.map cI.i64 l245_)), [])), (2, (.ptr 2 0, [])), (6, (.v (.sl (List.map GIns.c m249_.1)), [])), (7, (.v (.sl (List.map cI.i64 m249_.2)), [])), (10, (.v (.slx), [(0, .ex 1000000007 true (List.map GIns.c q263_.1))])), (11, (.v (.slx), [(0, .ex 1000000007 true (List.map cI.i64 p264_.1))])), (13, (.v (.int .i64 p264_.2), [])), (14, (.v (.int .i64 b266_), []))], [(2, .cells [.int .i64 c244_.gKind, .str c244_.gName, .int .i64 c244_.gNum, .sl (List.map GTerm.c c244_.gKids)] [])], []⟩ _ (by kernel_rfl) (.cons (claws_heldIntS h307) .nil) ?_
                      refine Wc.seq ?_
                      refine Wc.seq ?_
                      refine Wc.region [] [] [1, 2, 6, 7, 10, 11, 13, 14, 98] [2] [] ⟨[(1, (.v (.sl (List.map cI.i64 l245_)), [])), (2, (.ptr 2 0, [])), (6, (.v (.sl (List.map GIns.c m249_.1)), [])), (7, (.v (.sl (List.map cI.i64 m249_.2)), [])), (10, (.v (.slx), [(0, .ex 1000000007 true (List.map GIns.c q263_.1))])), (11, (.v (.slx), [(0, .ex 1000000007 true (List.map cI.i64 p264_.1))])), (13, (.v (.int .i64 p264_.2), [])), (14, (.v (.int .i64 b266_), [])), (98, (.v (.bool (decide (b266_ < 0))), []))], [(2, .cells [.int .i64 c244_.gKind, .str c244_.gName, .int .i64 c244_.gNum, .sl (List.map GTerm.c c244_.gKids)] [])], []⟩ _ (by kernel_rfl) .nil ?_
                      rcases oif h with ⟨h308, h⟩ | ⟨h308, h⟩
                      · refine Wc.condT h308 (by kernel_rfl) ?_
                        refine Wc.seq ?_
                        refine Wc.region [] [] [4] [] [] ⟨[(4, (.v (.bool false), []))], [], []⟩ _ (by kernel_rfl) .nil ?_
                        refine Wc.ret ?_
                        obtain rfl := Option.some.inj h
                        exact ⟨.inl rfl, by kernel_rfl, by kernel_rfl⟩
                      · refine Wc.condF h308 (by kernel_rfl) ?_
                        refine Wc.fix (st' := ⟨[(1, (.v (.sl (List.map cI.i64 l245_)), [])), (2, (.ptr 2 0, [])), (6, (.v (.sl (List.map GIns.c m249_.1)), [])), (7, (.v (.sl (List.map cI.i64 m249_.2)), [])), (10, (.v (.slx), [(0, .ex 1000000007 true (List.map GIns.c q263_.1))])), (11, (.v (.slx), [(0, .ex 1000000007 true (List.map cI.i64 p264_.1))])), (13, (.v (.int .i64 p264_.2), [])), (14, (.v (.int .i64 b266_), []))], [(2, .cells [.int .i64 c244_.gKind, .str c244_.gName, .int .i64 c244_.gNum, .sl (List.map GTerm.c c244_.gKids)] [])], []⟩) [] [1, 2, 6, 7, 10, 11, 13, 14] [2] [] (by kernel_rfl) ?_
                        refine Wc.skip ?_
                        refine Wc.seq ?_
                        refine Wc.seq ?_
                        refine Wc.region [] [] [1, 2, 6, 7, 10, 11, 13, 101] [2] [] ⟨[(1, (.v (.sl (List.map cI.i64 l245_)), [])), (2, (.ptr 2 0, [])), (6, (.v (.sl (List.map GIns.c m249_.1)), [])), (7, (.v (.sl (List.map cI.i64 m249_.2)), [])), (10, (.v (.slx), [(0, .ex 1000000007 true (List.map GIns.c q263_.1))])), (11, (.v (.slx), [(0, .ex 1000000007 true (List.map cI.i64 p264_.1))])), (13, (.v (.int .i64 p264_.2), [])), (101, (.v (.bool (b266_ != p264_.2)), []))], [(2, .cells [.int .i64 c244_.gKind, .str c244_.gName, .int .i64 c244_.gNum, .sl (List.map GTerm.c c244_.gKids)] [])], []⟩ _ (by kernel_rfl) .nil ?_
                        rcases oif h with ⟨h309, h⟩ | ⟨h309, h⟩
                        · refine Wc.condT h309 (by kernel_rfl) ?_
                          refine Wc.seq ?_
                          refine Wc.region [] [] [4] [] [] ⟨[(4, (.v (.bool false), []))], [], []⟩ _ (by kernel_rfl) .nil ?_
                          refine Wc.ret ?_
                          obtain rfl := Option.some.inj h
                          exact ⟨.inl rfl, by kernel_rfl, by kernel_rfl⟩
                        · refine Wc.condF h309 (by kernel_rfl) ?_
                          refine Wc.fix (st' := ⟨[(1, (.v (.sl (List.map cI.i64 l245_)), [])), (2, (.ptr 2 0, [])), (6, (.v (.sl (List.map GIns.c m249_.1)), [])), (7, (.v (.sl (List.map cI.i64 m249_.2)), [])), (10, (.v (.slx), [(0, .ex 1000000007 true (List.map GIns.c q263_.1))])), (11, (.v (.slx), [(0, .ex 1000000007 true (List.map cI.i64 p264_.1))])), (13, (.v (.int .i64 p264_.2), []))], [(2, .cells [.int .i64 c244_.gKind, .str c244_.gName, .int .i64 c244_.gNum, .sl (List.map GTerm.c c244_.gKids)] [])], []⟩) [] [1, 2, 6, 7, 10, 11, 13] [2] [] (by kernel_rfl) ?_
                          refine Wc.skip ?_
                          refine Wc.seq ?_
                          obtain ⟨c267_, h310, h⟩ := obind h
                          obtain ⟨n268_, h311, h⟩ := obind h
                          obtain ⟨m269_, h312, h⟩ := obind h
                          refine Wc.region [{}, { r := some (.v (.agg [.int .i64 c267_.gKind, .str c267_.gName, .int .i64 c267_.gNum, .sl (List.map GTerm.c c267_.gKids)]) []) }, {}, { r := some (.v (.sl (List.map cI.i64 n268_)) []) }, { r := some (.v (.tup [.sl (List.map GIns.c m269_.1), .sl (List.map cI.i64 m269_.2)]) [(0, .app 97)]) }, { tk := [107] }, { tk := [102] }, {}, { tk := [108] }] [] [6, 7, 10, 11, 13, 15, 16] [] [] ⟨[(6, (.v (.sl (List.map GIns.c m249_.1)), [])), (7, (.v (.sl (List.map cI.i64 m249_.2)), [])), (10, (.v (.slx), [(0, .ex 1000000007 true (List.map GIns.c q263_.1))])), (11, (.v (.slx), [(0, .ex 1000000007 true (List.map cI.i64 p264_.1))])), (13, (.v (.int .i64 p264_.2), [])), (15, (.v (.sl (List.map GIns.c m269_.1)), [(0, .app 97)])), (16, (.v (.sl (List.map cI.i64 m269_.2)), []))], [], []⟩ _ (by kernel_rfl) (.cons (claws_toTerm h310) (.cons (claws_toIntS h311) (.cons (cimpl_WordsOf h312) .nil))) ?_
                          refine Wc.seq ?_
                          refine Wc.seq ?_
                          obtain ⟨e270_, h313, h⟩ := obind h
                          rcases oif h with ⟨h314, h⟩ | ⟨h314, h⟩
                          · refine Wc.region [{ tk := [15] }, {}, { r := some (.v (.bool e270_) []) }, {}, { re := some (.bool true) }] [] [10, 11, 13, 119] [] [] ⟨[(10, (.v (.slx), [(0, .ex 1000000007 true (List.map GIns.c q263_.1))])), (11, (.v (.slx), [(0, .ex 1000000007 true (List.map cI.i64 p264_.1))])), (13, (.v (.int .i64 p264_.2), [])), (119, (.v (.bool true), []))], [], []⟩ _ (by kernel_rfl) (.cons (claws_eqInsS h313) (.cons (congrArg AV.bool h314) .nil)) ?_
                            refine Wc.condT rfl (by kernel_rfl) ?_
                            refine Wc.seq ?_
                            refine Wc.region [] [] [4] [] [] ⟨[(4, (.v (.bool false), []))], [], []⟩ _ (by kernel_rfl) .nil ?_
                            refine Wc.ret ?_
                            obtain rfl := Option.some.inj h
                            exact ⟨.inl rfl, by kernel_rfl, by kernel_rfl⟩
                          · obtain ⟨e271_, h315, h⟩ := obind h
                            refine Wc.region [{ tk := [15] }, {}, { r := some (.v (.bool e270_) []) }, {}, { re := some (.bool false) }, {}, {}, { r := some (.v (.bool e271_) []) }] [] [10, 11, 13, 119] [] [] ⟨[(10, (.v (.slx), [(0, .ex 1000000007 true (List.map GIns.c q263_.1))])), (11, (.v (.slx), [(0, .ex 1000000007 true (List.map cI.i64 p264_.1))])), (13, (.v (.int .i64 p264_.2), [])), (119, (.v (.bool (!e271_)), []))], [], []⟩ _ (by kernel_rfl) (.cons (claws_eqInsS h313) (.cons (congrArg AV.bool h314) (.cons (claws_eqIntS h315) .nil))) ?_
                            rcases oif h with ⟨h316, h⟩ | ⟨h316, h⟩
                            · refine Wc.condT h316 (by kernel_rfl) ?_
                              refine Wc.seq ?_
                              refine Wc.region [] [] [4] [] [] ⟨[(4, (.v (.bool false), []))], [], []⟩ _ (by kernel_rfl) .nil ?_
                              refine Wc.ret ?_
                              obtain rfl := Option.some.inj h
                              exact ⟨.inl rfl, by kernel_rfl, by kernel_rfl⟩
                            · refine Wc.condF h316 (by kernel_rfl) ?_
                              refine Wc.fix (st' := ⟨[(10, (.v (.slx), [(0, .ex 1000000007 true (List.map GIns.c q263_.1))])), (11, (.v (.slx), [(0, .ex 1000000007 true (List.map cI.i64 p264_.1))])), (13, (.v (.int .i64 p264_.2), []))], [], []⟩) [] [10, 11, 13] [] [] (by kernel_rfl) ?_
                              refine Wc.skip ?_
                              refine Wc.seq ?_
                              refine Wc.region [] [] [10, 11, 13, 14] [] [] ⟨[(10, (.v (.slx), [(0, .ex 1000000007 true (List.map GIns.c q263_.1))])), (11, (.v (.slx), [(0, .ex 1000000007 true (List.map cI.i64 p264_.1))])), (13, (.v (.int .i64 p264_.2), [])), (14, (.v (.int .i64 1), []))], [], []⟩ _ (by kernel_rfl) .nil ?_
                              refine Wc.seq ?_
                              obtain ⟨b272_, h317, h⟩ := obind h
                              refine Wc.region [{ tk := [10] }, {}, { r := some (.v (.int .i64 b272_) []) }] [] [11, 13, 14] [] [] ⟨[(11, (.v (.slx), [(0, .ex 1000000007 true (List.map cI.i64 p264_.1))])), (13, (.v (.int .i64 p264_.2), [])), (14, (.v (.int .i64 b272_), []))], [], []⟩ _ (by kernel_rfl) (.cons (claws_heldInsS h317) .nil) ?_
                              refine Wc.seq ?_
                              refine Wc.seq ?_
                              refine Wc.region [] [] [11, 13, 14, 124] [] [] ⟨[(11, (.v (.slx), [(0, .ex 1000000007 true (List.map cI.i64 p264_.1))])), (13, (.v (.int .i64 p264_.2), [])), (14, (.v (.int .i64 b272_), [])), (124, (.v (.bool (decide (b272_ < 0))), []))], [], []⟩ _ (by kernel_rfl) .nil ?_
                              rcases oif h with ⟨h318, h⟩ | ⟨h318, h⟩
                              · refine Wc.condT h318 (by kernel_rfl) ?_
                                refine Wc.seq ?_
                                refine Wc.region [] [] [4] [] [] ⟨[(4, (.v (.bool false), []))], [], []⟩ _ (by kernel_rfl) .nil ?_
                                refine Wc.ret ?_
                                obtain rfl := Option.some.inj h
                                exact ⟨.inl rfl, by kernel_rfl, by kernel_rfl⟩
                              · refine Wc.condF h318 (by kernel_rfl) ?_
                                refine Wc.fix (st' := ⟨[(11, (.v (.slx), [(0, .ex 1000000007 true (List.map cI.i64 p264_.1))])), (13, (.v (.int .i64 p264_.2), [])), (14, (.v (.int .i64 b272_), []))], [], []⟩) [] [11, 13, 14] [] [] (by kernel_rfl) ?_
                                refine Wc.skip ?_
                                refine Wc.seq ?_
                                obtain ⟨b273_, h319, h⟩ := obind h
                                refine Wc.region [{ tk := [11] }, {}, { r := some (.v (.int .i64 b273_) []) }] [] [13, 14] [] [] ⟨[(13, (.v (.int .i64 p264_.2), [])), (14, (.v (.int .i64 b273_), []))], [], []⟩ _ (by kernel_rfl) (.cons (claws_heldIntS h319) .nil) ?_
                                refine Wc.seq ?_
                                refine Wc.seq ?_
                                refine Wc.region [] [] [13, 14, 129] [] [] ⟨[(13, (.v (.int .i64 p264_.2), [])), (14, (.v (.int .i64 b273_), [])), (129, (.v (.bool (decide (b273_ < 0))), []))], [], []⟩ _ (by kernel_rfl) .nil ?_
                                rcases oif h with ⟨h320, h⟩ | ⟨h320, h⟩
                                · refine Wc.condT h320 (by kernel_rfl) ?_
                                  refine Wc.seq ?_
                                  refine Wc.region [] [] [4] [] [] ⟨[(4, (.v (.bool false), []))], [], []⟩ _ (by kernel_rfl) .nil ?_
                                  refine Wc.ret ?_
                                  obtain rfl := Option.some.inj h
                                  exact ⟨.inl rfl, by kernel_rfl, by kernel_rfl⟩
                                · refine Wc.condF h320 (by kernel_rfl) ?_
                                  refine Wc.fix (st' := ⟨[(13, (.v (.int .i64 p264_.2), [])), (14, (.v (.int .i64 b273_), []))], [], []⟩) [] [13, 14] [] [] (by kernel_rfl) ?_
                                  refine Wc.skip ?_
                                  refine Wc.seq ?_
                                  refine Wc.seq ?_
                                  refine Wc.region [] [] [132] [] [] ⟨[(132, (.v (.bool (b273_ != p264_.2)), []))], [], []⟩ _ (by kernel_rfl) .nil ?_
                                  rcases oif h with ⟨h321, h⟩ | ⟨h321, h⟩
                                  · refine Wc.condT h321 (by kernel_rfl) ?_
                                    refine Wc.seq ?_
                                    refine Wc.region [] [] [4] [] [] ⟨[(4, (.v (.bool false), []))], [], []⟩ _ (by kernel_rfl) .nil ?_
                                    refine Wc.ret ?_
                                    obtain rfl := Option.some.inj h
                                    exact ⟨.inl rfl, by kernel_rfl, by kernel_rfl⟩
                                  · refine Wc.condF h321 (by kernel_rfl) ?_
                                    refine Wc.fix (st' := ⟨[], [], []⟩) [] [] [] [] (by kernel_rfl) ?_
                                    refine Wc.skip ?_
                                    refine Wc.seq ?_
                                    refine Wc.region [] [] [4] [] [] ⟨[(4, (.v (.bool true), []))], [], []⟩ _ (by kernel_rfl) .nil ?_
                                    refine Wc.ret ?_
                                    obtain rfl := Option.some.inj h
                                    exact ⟨.inl rfl, by kernel_rfl, by kernel_rfl⟩
end Go.Proofs.Ytbfkmgenokhkgaa

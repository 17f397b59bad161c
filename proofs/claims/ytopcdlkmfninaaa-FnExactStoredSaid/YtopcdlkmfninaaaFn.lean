/- What the functions do. -/
import Derived.Test.YtopcdlkmfninaaaTy
set_option linter.unusedVariables false
set_option linter.unusedSimpArgs false
namespace Go.Proofs.Ytopcdlkmfninaaa
open Go.RowKit Go.Bv
/-- laws.szFile -/
def plaws_szFile (k : Nat) (a1_ : GFile) (b2_ : Int) : Option Int :=
  if (decide ((wr.i64 (b2_ - (a1_.gName.size : Int))) < 0)) = true then
    some (-1)
  else
    if (decide ((wr.i64 ((wr.i64 (b2_ - (a1_.gName.size : Int))) - (a1_.gText.size : Int))) < 0)) = true then
      some (-1)
    else
      some (wr.i64 ((wr.i64 (b2_ - (a1_.gName.size : Int))) - (a1_.gText.size : Int)))
theorem claws_szFile {k : Nat} {a1_ : GFile} {b2_ : Int} {r : Int} (h : plaws_szFile k a1_ b2_ = some r) : FnO Try.prog 19 [.v (.agg [.str a1_.gName, .str a1_.gText]) [], .v (.int .i64 b2_) []] (.v (.int .i64 r) []) [] := by
  refine FnO.of Try.func19 (rfl : Try.f19.body = some _) (Nat.le_of_ble_eq_true (by kernel_rfl)) (Nat.le_of_ble_eq_true (by kernel_rfl)) ?_
  intro w0 X0 Fin pv0 pb gt
  unfold plaws_szFile at h
  refine Wc.seq ?_
  refine Wc.region [] [] [1, 2] [2] [] ⟨[(1, (.v (.int .i64 b2_), [])), (2, (.ptr 2 0, []))], [(2, .cells [.str a1_.gName, .str a1_.gText] [])], []⟩ _ (by kernel_rfl) .nil ?_
  refine Wc.seq ?_
  refine Wc.region [] [] [1, 2] [2] [] ⟨[(1, (.v (.int .i64 (wr.i64 (b2_ - (a1_.gName.size : Int)))), [])), (2, (.ptr 2 0, []))], [(2, .cells [.str a1_.gName, .str a1_.gText] [])], []⟩ _ (by kernel_rfl) .nil ?_
  refine Wc.seq ?_
  refine Wc.seq ?_
  refine Wc.region [] [] [1, 2, 11] [2] [] ⟨[(1, (.v (.int .i64 (wr.i64 (b2_ - (a1_.gName.size : Int)))), [])), (2, (.ptr 2 0, [])), (11, (.v (.bool (decide ((wr.i64 (b2_ - (a1_.gName.size : Int))) < 0))), []))], [(2, .cells [.str a1_.gName, .str a1_.gText] [])], []⟩ _ (by kernel_rfl) .nil ?_
  rcases oif h with ⟨h1, h⟩ | ⟨h1, h⟩
  · refine Wc.condT h1 (by kernel_rfl) ?_
    refine Wc.seq ?_
    refine Wc.region [] [] [4] [] [] ⟨[(4, (.v (.int .i64 (-1)), []))], [], []⟩ _ (by kernel_rfl) .nil ?_
    refine Wc.ret ?_
    obtain rfl := Option.some.inj h
    exact ⟨.inl rfl, by kernel_rfl, by kernel_rfl⟩
  · refine Wc.condF h1 (by kernel_rfl) ?_
    refine Wc.fix (st' := ⟨[(1, (.v (.int .i64 (wr.i64 (b2_ - (a1_.gName.size : Int)))), [])), (2, (.ptr 2 0, []))], [(2, .cells [.str a1_.gName, .str a1_.gText] [])], []⟩) [] [1, 2] [2] [] (by kernel_rfl) ?_
    refine Wc.skip ?_
    refine Wc.seq ?_
    refine Wc.region [] [] [1] [] [] ⟨[(1, (.v (.int .i64 (wr.i64 ((wr.i64 (b2_ - (a1_.gName.size : Int))) - (a1_.gText.size : Int)))), []))], [], []⟩ _ (by kernel_rfl) .nil ?_
    refine Wc.seq ?_
    refine Wc.seq ?_
    refine Wc.region [] [] [1, 18] [] [] ⟨[(1, (.v (.int .i64 (wr.i64 ((wr.i64 (b2_ - (a1_.gName.size : Int))) - (a1_.gText.size : Int)))), [])), (18, (.v (.bool (decide ((wr.i64 ((wr.i64 (b2_ - (a1_.gName.size : Int))) - (a1_.gText.size : Int))) < 0))), []))], [], []⟩ _ (by kernel_rfl) .nil ?_
    rcases oif h with ⟨h2, h⟩ | ⟨h2, h⟩
    · refine Wc.condT h2 (by kernel_rfl) ?_
      refine Wc.seq ?_
      refine Wc.region [] [] [4] [] [] ⟨[(4, (.v (.int .i64 (-1)), []))], [], []⟩ _ (by kernel_rfl) .nil ?_
      refine Wc.ret ?_
      obtain rfl := Option.some.inj h
      exact ⟨.inl rfl, by kernel_rfl, by kernel_rfl⟩
    · refine Wc.condF h2 (by kernel_rfl) ?_
      refine Wc.fix (st' := ⟨[(1, (.v (.int .i64 (wr.i64 ((wr.i64 (b2_ - (a1_.gName.size : Int))) - (a1_.gText.size : Int)))), []))], [], []⟩) [] [1] [] [] (by kernel_rfl) ?_
      refine Wc.skip ?_
      refine Wc.seq ?_
      refine Wc.region [] [] [4] [] [] ⟨[(4, (.v (.int .i64 (wr.i64 ((wr.i64 (b2_ - (a1_.gName.size : Int))) - (a1_.gText.size : Int)))), []))], [], []⟩ _ (by kernel_rfl) .nil ?_
      refine Wc.ret ?_
      obtain rfl := Option.some.inj h
      exact ⟨.inl rfl, by kernel_rfl, by kernel_rfl⟩

def plaws_szFileS_L1 (k : Nat) (c3_ : List GFile) : Nat → Int → Int → Option (Out Int Int)
  | 0, _, _ => none
  | m + 1, b5_, b6_ =>
    if (decide (b6_ < (c3_.length : Int))) = true then
      (at' c3_ b6_).bind fun a8_ =>
      (plaws_szFile k a8_ b5_).bind fun b9_ =>
      if (decide (b9_ < 0)) = true then
        some (.ret (-1))
      else
        plaws_szFileS_L1 k c3_ m b9_ (wr.i64 (b6_ + 1))
    else
      some (.done b5_)
/-- laws.szFileS -/
def plaws_szFileS (k : Nat) (c3_ : List GFile) (b4_ : Int) : Option Int :=
  if (decide ((wr.i64 (b4_ - (c3_.length : Int))) < 0)) = true then
    some (-1)
  else
    (plaws_szFileS_L1 k c3_ k (wr.i64 (b4_ - (c3_.length : Int))) 0).bind fun out1 => match out1 with
    | .ret r => some r
    | .done b7_ =>
      some b7_
theorem claws_szFileS {k : Nat} {c3_ : List GFile} {b4_ : Int} {r : Int} (h : plaws_szFileS k c3_ b4_ = some r) : FnO Try.prog 5 [.v (.sl (List.map GFile.c c3_)) [], .v (.int .i64 b4_) []] (.v (.int .i64 r) []) [] := by
  refine FnO.of Try.func5 (rfl : Try.f5.body = some _) (Nat.le_of_ble_eq_true (by kernel_rfl)) (Nat.le_of_ble_eq_true (by kernel_rfl)) ?_
  intro w0 X0 Fin pv0 pb gt
  unfold plaws_szFileS at h
  refine Wc.seq ?_
  refine Wc.region [] [] [0, 1] [] [] ⟨[(0, (.v (.sl (List.map GFile.c c3_)), [])), (1, (.v (.int .i64 b4_), []))], [], []⟩ _ (by kernel_rfl) .nil ?_
  refine Wc.seq ?_
  refine Wc.region [{}, {}, { v := some (.int .i64 (c3_.length : Int)) }] [] [0, 1] [] [] ⟨[(0, (.v (.sl (List.map GFile.c c3_)), [])), (1, (.v (.int .i64 (wr.i64 (b4_ - (c3_.length : Int)))), []))], [], []⟩ _ (by kernel_rfl) (.cons (len_obl GFile.c c3_) .nil) ?_
  refine Wc.seq ?_
  refine Wc.seq ?_
  refine Wc.region [] [] [0, 1, 11] [] [] ⟨[(0, (.v (.sl (List.map GFile.c c3_)), [])), (1, (.v (.int .i64 (wr.i64 (b4_ - (c3_.length : Int)))), [])), (11, (.v (.bool (decide ((wr.i64 (b4_ - (c3_.length : Int))) < 0))), []))], [], []⟩ _ (by kernel_rfl) .nil ?_
  rcases oif h with ⟨h3, h⟩ | ⟨h3, h⟩
  · refine Wc.condT h3 (by kernel_rfl) ?_
    refine Wc.seq ?_
    refine Wc.region [] [] [4] [] [] ⟨[(4, (.v (.int .i64 (-1)), []))], [], []⟩ _ (by kernel_rfl) .nil ?_
    refine Wc.ret ?_
    obtain rfl := Option.some.inj h
    exact ⟨.inl rfl, by kernel_rfl, by kernel_rfl⟩
  · refine Wc.condF h3 (by kernel_rfl) ?_
    refine Wc.fix (st' := ⟨[(0, (.v (.sl (List.map GFile.c c3_)), [])), (1, (.v (.int .i64 (wr.i64 (b4_ - (c3_.length : Int)))), []))], [], []⟩) [] [0, 1] [] [] (by kernel_rfl) ?_
    refine Wc.skip ?_
    refine Wc.seq ?_
    refine Wc.seq ?_
    refine Wc.region [] [] [0, 1, 5] [] [] ⟨[(0, (.v (.sl (List.map GFile.c c3_)), [])), (1, (.v (.int .i64 (wr.i64 (b4_ - (c3_.length : Int)))), [])), (5, (.v (.int .i64 0), []))], [], []⟩ _ (by kernel_rfl) .nil ?_
    obtain ⟨out1, h4, h⟩ := obind h
    refine Wc.lastJ (fun st => ∃ (b7_ : Int), out1 = .done b7_ ∧ st = ⟨[(1, (.v (.int .i64 b7_), []))], [], []⟩) ?_ ?_
    · refine Wc.block ?_
      refine Wc.loop (fun m st => ∃ (b5_ : Int) (b6_ : Int), st = ⟨[(0, (.v (.sl (List.map GFile.c c3_)), [])), (1, (.v (.int .i64 b5_), [])), (5, (.v (.int .i64 b6_), []))], [], []⟩ ∧ plaws_szFileS_L1 k c3_ m b5_ b6_ = some out1) ?_ k ⟨_, _, rfl, h4⟩
      rintro m st ⟨b5_, b6_, rfl, h4⟩
      cases m with
      | zero => exact (onone h4).elim
      | succ m =>
        refine Wc.seq ?_
        refine Wc.seq ?_
        refine Wc.region [{}, {}, { v := some (.int .i64 (c3_.length : Int)) }] [] [0, 1, 5, 15] [] [] ⟨[(0, (.v (.sl (List.map GFile.c c3_)), [])), (1, (.v (.int .i64 b5_), [])), (5, (.v (.int .i64 b6_), [])), (15, (.v (.bool (decide (b6_ < (c3_.length : Int)))), []))], [], []⟩ _ (by kernel_rfl) (.cons (len_obl GFile.c c3_) .nil) ?_
        rcases oif h4 with ⟨h5, h4⟩ | ⟨h5, h4⟩
        · refine Wc.condT h5 (by kernel_rfl) ?_
          refine Wc.fix (st' := ⟨[(0, (.v (.sl (List.map GFile.c c3_)), [])), (1, (.v (.int .i64 b5_), [])), (5, (.v (.int .i64 b6_), []))], [], []⟩) [] [0, 1, 5] [] [] (by kernel_rfl) ?_
          refine Wc.skip ?_
          refine Wc.seq ?_
          refine Wc.block ?_
          refine Wc.seq ?_
          obtain ⟨a8_, h6, h4⟩ := obind h4
          obtain ⟨b9_, h7, h4⟩ := obind h4
          refine Wc.region [{}, {}, { v := some (.vptr [.str a8_.gName, .str a8_.gText]) }, {}, {}, { r := some (.v (.int .i64 b9_) []) }] [] [0, 1, 5] [] [] ⟨[(0, (.v (.sl (List.map GFile.c c3_)), [])), (1, (.v (.int .i64 b9_), [])), (5, (.v (.int .i64 b6_), []))], [], []⟩ _ (by kernel_rfl) (.cons (at_obl (c := GFile.c) (GFile.c_eq a8_) GFile.c_len h6) (.cons (len_ok 2 [.str a8_.gName, .str a8_.gText]) (.cons (claws_szFile h7) .nil))) ?_
          refine Wc.seq ?_
          refine Wc.region [] [] [0, 1, 5, 25] [] [] ⟨[(0, (.v (.sl (List.map GFile.c c3_)), [])), (1, (.v (.int .i64 b9_), [])), (5, (.v (.int .i64 b6_), [])), (25, (.v (.bool (decide (b9_ < 0))), []))], [], []⟩ _ (by kernel_rfl) .nil ?_
          rcases oif h4 with ⟨h8, h4⟩ | ⟨h8, h4⟩
          · refine Wc.condT h8 (by kernel_rfl) ?_
            refine Wc.seq ?_
            refine Wc.region [] [] [4] [] [] ⟨[(4, (.v (.int .i64 (-1)), []))], [], []⟩ _ (by kernel_rfl) .nil ?_
            refine Wc.ret ?_
            obtain rfl := Option.some.inj h4
            obtain rfl := Option.some.inj h
            exact ⟨.inl rfl, by kernel_rfl, by kernel_rfl⟩
          · refine Wc.condF h8 (by kernel_rfl) ?_
            refine Wc.fix (st' := ⟨[(0, (.v (.sl (List.map GFile.c c3_)), [])), (1, (.v (.int .i64 b9_), [])), (5, (.v (.int .i64 b6_), []))], [], []⟩) [] [0, 1, 5] [] [] (by kernel_rfl) ?_
            refine Wc.skip ?_
            refine Wc.region [] [] [0, 1, 5] [] [] ⟨[(0, (.v (.sl (List.map GFile.c c3_)), [])), (1, (.v (.int .i64 b9_), [])), (5, (.v (.int .i64 (wr.i64 (b6_ + 1))), []))], [], []⟩ _ (by kernel_rfl) .nil ?_
            exact ⟨_, Nat.lt_succ_self _, _, _, rfl, h4⟩
        · refine Wc.condF h5 (by kernel_rfl) ?_
          refine Wc.fix (st' := ⟨[(1, (.v (.int .i64 b5_), []))], [], []⟩) [] [1] [] [] (by kernel_rfl) ?_
          refine Wc.exit ?_
          obtain rfl := Option.some.inj h4
          exact ⟨_, rfl, rfl⟩
    · rintro st ⟨b7_, rfl, rfl⟩
      refine Wc.seq ?_
      refine Wc.region [] [] [4] [] [] ⟨[(4, (.v (.int .i64 b7_), []))], [], []⟩ _ (by kernel_rfl) .nil ?_
      refine Wc.ret ?_
      obtain rfl := Option.some.inj h
      exact ⟨.inl rfl, by kernel_rfl, by kernel_rfl⟩

/-- spec.l05Small -/
def pspec_l05Small (k : Nat) (b10_ : Int) : Option Bool :=
  if (decide (b10_ ≥ 97)) = true then
    some (decide (b10_ ≤ 122))
  else
    some false
theorem cspec_l05Small {k : Nat} {b10_ : Int} {r : Bool} (h : pspec_l05Small k b10_ = some r) : FnO Try.prog 54 [.v (.int .u8 b10_) []] (.v (.bool r) []) [] := by
  refine FnO.of Try.func54 (rfl : Try.f54.body = some _) (Nat.le_of_ble_eq_true (by kernel_rfl)) (Nat.le_of_ble_eq_true (by kernel_rfl)) ?_
  intro w0 X0 Fin pv0 pb gt
  unfold pspec_l05Small at h
  refine Wc.seq ?_
  refine Wc.region [] [] [0] [] [] ⟨[(0, (.v (.int .u8 b10_), []))], [], []⟩ _ (by kernel_rfl) .nil ?_
  refine Wc.seq ?_
  rcases oif h with ⟨h9, h⟩ | ⟨h9, h⟩
  · refine Wc.region [{}, {}, { re := some (.bool true) }] [] [2] [] [] ⟨[(2, (.v (.bool (decide (b10_ ≤ 122))), []))], [], []⟩ _ (by kernel_rfl) (.cons (congrArg AV.bool h9) .nil) ?_
    refine Wc.ret ?_
    obtain rfl := Option.some.inj h
    exact ⟨.inl rfl, by kernel_rfl, by kernel_rfl⟩
  · refine Wc.region [{}, {}, { re := some (.bool false) }] [] [2] [] [] ⟨[(2, (.v (.bool false), []))], [], []⟩ _ (by kernel_rfl) (.cons (congrArg AV.bool h9) .nil) ?_
    refine Wc.ret ?_
    obtain rfl := Option.some.inj h
    exact ⟨.inl rfl, by kernel_rfl, by kernel_rfl⟩

/-- spec.l01In -/
def pspec_l01In (k : Nat) (b11_ : Int) (b12_ : Int) (b13_ : Int) : Option Bool :=
  if (decide (b11_ ≥ b12_)) = true then
    some (decide (b11_ ≤ b13_))
  else
    some false
theorem cspec_l01In {k : Nat} {b11_ : Int} {b12_ : Int} {b13_ : Int} {r : Bool} (h : pspec_l01In k b11_ b12_ b13_ = some r) : FnO Try.prog 55 [.v (.int .i64 b11_) [], .v (.int .i64 b12_) [], .v (.int .i64 b13_) []] (.v (.bool r) []) [] := by
  refine FnO.of Try.func55 (rfl : Try.f55.body = some _) (Nat.le_of_ble_eq_true (by kernel_rfl)) (Nat.le_of_ble_eq_true (by kernel_rfl)) ?_
  intro w0 X0 Fin pv0 pb gt
  unfold pspec_l01In at h
  refine Wc.seq ?_
  refine Wc.region [] [] [0, 1, 2] [] [] ⟨[(0, (.v (.int .i64 b11_), [])), (1, (.v (.int .i64 b12_), [])), (2, (.v (.int .i64 b13_), []))], [], []⟩ _ (by kernel_rfl) .nil ?_
  refine Wc.seq ?_
  rcases oif h with ⟨h10, h⟩ | ⟨h10, h⟩
  · refine Wc.region [{}, {}, {}, { re := some (.bool true) }] [] [6] [] [] ⟨[(6, (.v (.bool (decide (b11_ ≤ b13_))), []))], [], []⟩ _ (by kernel_rfl) (.cons (congrArg AV.bool h10) .nil) ?_
    refine Wc.ret ?_
    obtain rfl := Option.some.inj h
    exact ⟨.inl rfl, by kernel_rfl, by kernel_rfl⟩
  · refine Wc.region [{}, {}, {}, { re := some (.bool false) }] [] [6] [] [] ⟨[(6, (.v (.bool false), []))], [], []⟩ _ (by kernel_rfl) (.cons (congrArg AV.bool h10) .nil) ?_
    refine Wc.ret ?_
    obtain rfl := Option.some.inj h
    exact ⟨.inl rfl, by kernel_rfl, by kernel_rfl⟩

def pspec_l16Name_L1 (k : Nat) (d14_ : ByteArray) : Nat → Int → Option (Out Bool Unit)
  | 0, _ => none
  | m + 1, b15_ =>
    if (decide (b15_ < (d14_.size : Int))) = true then
      if 0 ≤ b15_ ∧ (b15_).toNat < d14_.size then
        (pspec_l05Small k (bt d14_ b15_)).bind fun e16_ =>
        if (!e16_) = true then
          some (.ret false)
        else
          pspec_l16Name_L1 k d14_ m (wr.i64 (b15_ + 1))
      else none
    else
      some (.done ())
/-- spec.l16Name -/
def pspec_l16Name (k : Nat) (d14_ : ByteArray) : Option Bool :=
  (pspec_l16Name_L1 k d14_ k 0).bind fun out1 => match out1 with
  | .ret r => some r
  | .done () =>
    (pspec_l01In k (d14_.size : Int) 1 8).bind fun e17_ =>
    some e17_
theorem cspec_l16Name {k : Nat} {d14_ : ByteArray} {r : Bool} (h : pspec_l16Name k d14_ = some r) : FnO Try.prog 41 [.v (.str d14_) []] (.v (.bool r) []) [] := by
  refine FnO.of Try.func41 (rfl : Try.f41.body = some _) (Nat.le_of_ble_eq_true (by kernel_rfl)) (Nat.le_of_ble_eq_true (by kernel_rfl)) ?_
  intro w0 X0 Fin pv0 pb gt
  unfold pspec_l16Name at h
  refine Wc.seq ?_
  refine Wc.region [] [] [0] [] [] ⟨[(0, (.v (.str d14_), []))], [], []⟩ _ (by kernel_rfl) .nil ?_
  refine Wc.seq ?_
  refine Wc.seq ?_
  refine Wc.region [] [] [0, 3] [] [] ⟨[(0, (.v (.str d14_), [])), (3, (.v (.int .i64 0), []))], [], []⟩ _ (by kernel_rfl) .nil ?_
  obtain ⟨out1, h11, h⟩ := obind h
  refine Wc.lastJ (fun st => out1 = .done () ∧ st = ⟨[(0, (.v (.str d14_), []))], [], []⟩) ?_ ?_
  · refine Wc.block ?_
    refine Wc.loop (fun m st => ∃ (b15_ : Int), st = ⟨[(0, (.v (.str d14_), [])), (3, (.v (.int .i64 b15_), []))], [], []⟩ ∧ pspec_l16Name_L1 k d14_ m b15_ = some out1) ?_ k ⟨_, rfl, h11⟩
    rintro m st ⟨b15_, rfl, h11⟩
    cases m with
    | zero => exact (onone h11).elim
    | succ m =>
      refine Wc.seq ?_
      refine Wc.seq ?_
      refine Wc.region [] [] [0, 3, 7] [] [] ⟨[(0, (.v (.str d14_), [])), (3, (.v (.int .i64 b15_), [])), (7, (.v (.bool (decide (b15_ < (d14_.size : Int)))), []))], [], []⟩ _ (by kernel_rfl) .nil ?_
      rcases oif h11 with ⟨h12, h11⟩ | ⟨h12, h11⟩
      · refine Wc.condT h12 (by kernel_rfl) ?_
        refine Wc.fix (st' := ⟨[(0, (.v (.str d14_), [])), (3, (.v (.int .i64 b15_), []))], [], []⟩) [] [0, 3] [] [] (by kernel_rfl) ?_
        refine Wc.skip ?_
        refine Wc.seq ?_
        refine Wc.block ?_
        refine Wc.seq ?_
        obtain ⟨h13, h11⟩ := oguard h11
        obtain ⟨e16_, h14, h11⟩ := obind h11
        refine Wc.region [{}, {}, {}, { r := some (.v (.bool e16_) []) }] [] [0, 3, 14] [] [] ⟨[(0, (.v (.str d14_), [])), (3, (.v (.int .i64 b15_), [])), (14, (.v (.bool (!e16_)), []))], [], []⟩ _ (by kernel_rfl) (.cons h13 (.cons (cspec_l05Small h14) .nil)) ?_
        rcases oif h11 with ⟨h15, h11⟩ | ⟨h15, h11⟩
        · refine Wc.condT h15 (by kernel_rfl) ?_
          refine Wc.seq ?_
          refine Wc.region [] [] [2] [] [] ⟨[(2, (.v (.bool false), []))], [], []⟩ _ (by kernel_rfl) .nil ?_
          refine Wc.ret ?_
          obtain rfl := Option.some.inj h11
          obtain rfl := Option.some.inj h
          exact ⟨.inl rfl, by kernel_rfl, by kernel_rfl⟩
        · refine Wc.condF h15 (by kernel_rfl) ?_
          refine Wc.fix (st' := ⟨[(0, (.v (.str d14_), [])), (3, (.v (.int .i64 b15_), []))], [], []⟩) [] [0, 3] [] [] (by kernel_rfl) ?_
          refine Wc.skip ?_
          refine Wc.region [] [] [0, 3] [] [] ⟨[(0, (.v (.str d14_), [])), (3, (.v (.int .i64 (wr.i64 (b15_ + 1))), []))], [], []⟩ _ (by kernel_rfl) .nil ?_
          exact ⟨_, Nat.lt_succ_self _, _, rfl, h11⟩
      · refine Wc.condF h12 (by kernel_rfl) ?_
        refine Wc.fix (st' := ⟨[(0, (.v (.str d14_), []))], [], []⟩) [] [0] [] [] (by kernel_rfl) ?_
        refine Wc.exit ?_
        obtain rfl := Option.some.inj h11
        exact ⟨rfl, rfl⟩
  · rintro st ⟨rfl, rfl⟩
    refine Wc.seq ?_
    obtain ⟨e17_, h16, h⟩ := obind h
    refine Wc.region [{}, {}, { r := some (.v (.bool e17_) []) }] [] [2] [] [] ⟨[(2, (.v (.bool e17_), []))], [], []⟩ _ (by kernel_rfl) (.cons (cspec_l01In h16) .nil) ?_
    refine Wc.ret ?_
    obtain rfl := Option.some.inj h
    exact ⟨.inl rfl, by kernel_rfl, by kernel_rfl⟩

def pspec_FilesOk_L1 (k : Nat) (c18_ : List GFile) : Nat → Int → Option (Out Bool Unit)
  | 0, _ => none
  | m + 1, b19_ =>
    if (decide (b19_ < (c18_.length : Int))) = true then
      (at' c18_ b19_).bind fun a20_ =>
      (pspec_l16Name k a20_.gName).bind fun e21_ =>
      if (!e21_) = true then
        some (.ret false)
      else
        (at' c18_ b19_).bind fun a22_ =>
        if (decide ((a22_.gText.size : Int) > 3000)) = true then
          some (.ret false)
        else
          if (decide (b19_ > 0)) = true then
            (at' c18_ (wr.i64 (b19_ - 1))).bind fun a23_ =>
            (at' c18_ b19_).bind fun a24_ =>
            if (!(sLt a23_.gName a24_.gName)) = true then
              some (.ret false)
            else
              pspec_FilesOk_L1 k c18_ m (wr.i64 (b19_ + 1))
          else
            pspec_FilesOk_L1 k c18_ m (wr.i64 (b19_ + 1))
    else
      some (.done ())
/-- spec.FilesOk -/
def pspec_FilesOk (k : Nat) (c18_ : List GFile) : Option Bool :=
  (pspec_FilesOk_L1 k c18_ k 0).bind fun out1 => match out1 with
  | .ret r => some r
  | .done () =>
    some (decide ((c18_.length : Int) ≤ 6))
theorem cspec_FilesOk {k : Nat} {c18_ : List GFile} {r : Bool} (h : pspec_FilesOk k c18_ = some r) : FnO Try.prog 20 [.v (.sl (List.map GFile.c c18_)) []] (.v (.bool r) []) [] := by
  refine FnO.of Try.func20 (rfl : Try.f20.body = some _) (Nat.le_of_ble_eq_true (by kernel_rfl)) (Nat.le_of_ble_eq_true (by kernel_rfl)) ?_
  intro w0 X0 Fin pv0 pb gt
  unfold pspec_FilesOk at h
  refine Wc.seq ?_
  refine Wc.region [] [] [0] [] [] ⟨[(0, (.v (.sl (List.map GFile.c c18_)), []))], [], []⟩ _ (by kernel_rfl) .nil ?_
  refine Wc.seq ?_
  refine Wc.seq ?_
  refine Wc.region [] [] [0, 3] [] [] ⟨[(0, (.v (.sl (List.map GFile.c c18_)), [])), (3, (.v (.int .i64 0), []))], [], []⟩ _ (by kernel_rfl) .nil ?_
  obtain ⟨out1, h17, h⟩ := obind h
  refine Wc.lastJ (fun st => out1 = .done () ∧ st = ⟨[(0, (.v (.sl (List.map GFile.c c18_)), []))], [], []⟩) ?_ ?_
  · refine Wc.block ?_
    refine Wc.loop (fun m st => ∃ (b19_ : Int), st = ⟨[(0, (.v (.sl (List.map GFile.c c18_)), [])), (3, (.v (.int .i64 b19_), []))], [], []⟩ ∧ pspec_FilesOk_L1 k c18_ m b19_ = some out1) ?_ k ⟨_, rfl, h17⟩
    rintro m st ⟨b19_, rfl, h17⟩
    cases m with
    | zero => exact (onone h17).elim
    | succ m =>
      refine Wc.seq ?_
      refine Wc.seq ?_
      refine Wc.region [{}, {}, { v := some (.int .i64 (c18_.length : Int)) }] [] [0, 3, 7] [] [] ⟨[(0, (.v (.sl (List.map GFile.c c18_)), [])), (3, (.v (.int .i64 b19_), [])), (7, (.v (.bool (decide (b19_ < (c18_.length : Int)))), []))], [], []⟩ _ (by kernel_rfl) (.cons (len_obl GFile.c c18_) .nil) ?_
      rcases oif h17 with ⟨h18, h17⟩ | ⟨h18, h17⟩
      · refine Wc.condT h18 (by kernel_rfl) ?_
        refine Wc.fix (st' := ⟨[(0, (.v (.sl (List.map GFile.c c18_)), [])), (3, (.v (.int .i64 b19_), []))], [], []⟩) [] [0, 3] [] [] (by kernel_rfl) ?_
        refine Wc.skip ?_
        refine Wc.seq ?_
        refine Wc.block ?_
        refine Wc.seq ?_
        obtain ⟨a20_, h19, h17⟩ := obind h17
        obtain ⟨e21_, h20, h17⟩ := obind h17
        rcases oif h17 with ⟨h21, h17⟩ | ⟨h21, h17⟩
        · refine Wc.draw hmix [{}, {}, { v := some (.vptr [.str a20_.gName, .str a20_.gText]) }, {}, {}, { r := some (.v (.bool e21_) []) }, {}, { re := some (.bool true) }] [] [0, 3, 43] [] [] ⟨[(0, (.v (.sl (List.map GFile.c c18_)), [])), (3, (.v (.int .i64 b19_), [])), (43, (.v (.bool true), []))], [], []⟩ _ (by kernel_rfl) (fun X => by kernel_rfl) (.cons (at_obl (c := GFile.c) (GFile.c_eq a20_) GFile.c_len h19) (.cons (len_ok 1 [.str a20_.gName, .str a20_.gText]) (.cons (cspec_l16Name h20) (.cons (congrArg AV.bool h21) .nil)))) ?_
          refine Wc.condT rfl (by kernel_rfl) ?_
          refine Wc.seq ?_
          refine Wc.region [] [] [2] [] [] ⟨[(2, (.v (.bool false), []))], [], []⟩ _ (by kernel_rfl) .nil ?_
          refine Wc.ret ?_
          obtain rfl := Option.some.inj h17
          obtain rfl := Option.some.inj h
          exact ⟨.inl rfl, by kernel_rfl, by kernel_rfl⟩
        · obtain ⟨a22_, h22, h17⟩ := obind h17
          rcases oif h17 with ⟨h23, h17⟩ | ⟨h23, h17⟩
          · refine Wc.draw hmix [{}, {}, { v := some (.vptr [.str a20_.gName, .str a20_.gText]) }, {}, {}, { r := some (.v (.bool e21_) []) }, {}, { re := some (.bool false) }, {}, {}, { v := some (.vptr [.str a22_.gName, .str a22_.gText]) }, {}, {}, {}, {}, {}, { re := some (.bool true) }] [] [0, 3, 43] [] [] ⟨[(0, (.v (.sl (List.map GFile.c c18_)), [])), (3, (.v (.int .i64 b19_), [])), (43, (.v (.bool true), []))], [], []⟩ _ (by kernel_rfl) (fun X => by kernel_rfl) (.cons (at_obl (c := GFile.c) (GFile.c_eq a20_) GFile.c_len h19) (.cons (len_ok 1 [.str a20_.gName, .str a20_.gText]) (.cons (cspec_l16Name h20) (.cons (congrArg AV.bool h21) (.cons (at_obl (c := GFile.c) (GFile.c_eq a22_) GFile.c_len h22) (.cons (len_ok 1 [.str a22_.gText]) (.cons (congrArg AV.bool h23) .nil))))))) ?_
            refine Wc.condT rfl (by kernel_rfl) ?_
            refine Wc.seq ?_
            refine Wc.region [] [] [2] [] [] ⟨[(2, (.v (.bool false), []))], [], []⟩ _ (by kernel_rfl) .nil ?_
            refine Wc.ret ?_
            obtain rfl := Option.some.inj h17
            obtain rfl := Option.some.inj h
            exact ⟨.inl rfl, by kernel_rfl, by kernel_rfl⟩
          · rcases oif h17 with ⟨h24, h17⟩ | ⟨h24, h17⟩
            · obtain ⟨a23_, h25, h17⟩ := obind h17
              obtain ⟨a24_, h26, h17⟩ := obind h17
              refine Wc.draw hmix [{}, {}, { v := some (.vptr [.str a20_.gName, .str a20_.gText]) }, {}, {}, { r := some (.v (.bool e21_) []) }, {}, { re := some (.bool false) }, {}, {}, { v := some (.vptr [.str a22_.gName, .str a22_.gText]) }, {}, {}, {}, {}, {}, { re := some (.bool false) }, {}, {}, { re := some (.bool true) }, {}, {}, {}, { v := some (.vptr [.str a23_.gName, .str a23_.gText]) }, {}, {}, {}, {}, { v := some (.vptr [.str a24_.gName, .str a24_.gText]) }] [] [0, 3, 43] [] [] ⟨[(0, (.v (.sl (List.map GFile.c c18_)), [])), (3, (.v (.int .i64 b19_), [])), (43, (.v (.bool (!(sLt a23_.gName a24_.gName))), []))], [], []⟩ _ (by kernel_rfl) (fun X => by kernel_rfl) (.cons (at_obl (c := GFile.c) (GFile.c_eq a20_) GFile.c_len h19) (.cons (len_ok 1 [.str a20_.gName, .str a20_.gText]) (.cons (cspec_l16Name h20) (.cons (congrArg AV.bool h21) (.cons (at_obl (c := GFile.c) (GFile.c_eq a22_) GFile.c_len h22) (.cons (len_ok 1 [.str a22_.gText]) (.cons (congrArg AV.bool h23) (.cons (congrArg AV.bool h24) (.cons (at_obl (c := GFile.c) (GFile.c_eq a23_) GFile.c_len h25) (.cons (len_ok 1 [.str a23_.gName, .str a23_.gText]) (.cons (at_obl (c := GFile.c) (GFile.c_eq a24_) GFile.c_len h26) (.cons (len_ok 1 [.str a24_.gName, .str a24_.gText]) .nil)))))))))))) ?_
              rcases oif h17 with ⟨h27, h17⟩ | ⟨h27, h17⟩
              · refine Wc.condT h27 (by kernel_rfl) ?_
                refine Wc.seq ?_
                refine Wc.region [] [] [2] [] [] ⟨[(2, (.v (.bool false), []))], [], []⟩ _ (by kernel_rfl) .nil ?_
                refine Wc.ret ?_
                obtain rfl := Option.some.inj h17
                obtain rfl := Option.some.inj h
                exact ⟨.inl rfl, by kernel_rfl, by kernel_rfl⟩
              · refine Wc.condF h27 (by kernel_rfl) ?_
                refine Wc.fix (st' := ⟨[(0, (.v (.sl (List.map GFile.c c18_)), [])), (3, (.v (.int .i64 b19_), []))], [], []⟩) [] [0, 3] [] [] (by kernel_rfl) ?_
                refine Wc.skip ?_
                refine Wc.region [] [] [0, 3] [] [] ⟨[(0, (.v (.sl (List.map GFile.c c18_)), [])), (3, (.v (.int .i64 (wr.i64 (b19_ + 1))), []))], [], []⟩ _ (by kernel_rfl) .nil ?_
                exact ⟨_, Nat.lt_succ_self _, _, rfl, h17⟩
            · refine Wc.draw hmix [{}, {}, { v := some (.vptr [.str a20_.gName, .str a20_.gText]) }, {}, {}, { r := some (.v (.bool e21_) []) }, {}, { re := some (.bool false) }, {}, {}, { v := some (.vptr [.str a22_.gName, .str a22_.gText]) }, {}, {}, {}, {}, {}, { re := some (.bool false) }, {}, {}, { re := some (.bool false) }] [] [0, 3, 43] [] [] ⟨[(0, (.v (.sl (List.map GFile.c c18_)), [])), (3, (.v (.int .i64 b19_), [])), (43, (.v (.bool false), []))], [], []⟩ _ (by kernel_rfl) (fun X => by kernel_rfl) (.cons (at_obl (c := GFile.c) (GFile.c_eq a20_) GFile.c_len h19) (.cons (len_ok 1 [.str a20_.gName, .str a20_.gText]) (.cons (cspec_l16Name h20) (.cons (congrArg AV.bool h21) (.cons (at_obl (c := GFile.c) (GFile.c_eq a22_) GFile.c_len h22) (.cons (len_ok 1 [.str a22_.gText]) (.cons (congrArg AV.bool h23) (.cons (congrArg AV.bool h24) .nil)))))))) ?_
              refine Wc.condF rfl (by kernel_rfl) ?_
              refine Wc.fix (st' := ⟨[(0, (.v (.sl (List.map GFile.c c18_)), [])), (3, (.v (.int .i64 b19_), []))], [], []⟩) [] [0, 3] [] [] (by kernel_rfl) ?_
              refine Wc.skip ?_
              refine Wc.region [] [] [0, 3] [] [] ⟨[(0, (.v (.sl (List.map GFile.c c18_)), [])), (3, (.v (.int .i64 (wr.i64 (b19_ + 1))), []))], [], []⟩ _ (by kernel_rfl) .nil ?_
              exact ⟨_, Nat.lt_succ_self _, _, rfl, h17⟩
      · refine Wc.condF h18 (by kernel_rfl) ?_
        refine Wc.fix (st' := ⟨[(0, (.v (.sl (List.map GFile.c c18_)), []))], [], []⟩) [] [0] [] [] (by kernel_rfl) ?_
        refine Wc.exit ?_
        obtain rfl := Option.some.inj h17
        exact ⟨rfl, rfl⟩
  · rintro st ⟨rfl, rfl⟩
    refine Wc.seq ?_
    refine Wc.region [{}, { v := some (.int .i64 (c18_.length : Int)) }] [] [2] [] [] ⟨[(2, (.v (.bool (decide ((c18_.length : Int) ≤ 6))), []))], [], []⟩ _ (by kernel_rfl) (.cons (len_obl GFile.c c18_) .nil) ?_
    refine Wc.ret ?_
    obtain rfl := Option.some.inj h
    exact ⟨.inl rfl, by kernel_rfl, by kernel_rfl⟩

def pspec_Stored_J2 (k : Nat) (bk_ : (List GFile) → Bool → Int → Option (Out ((List GFile) × Bool) ((List GFile) × Bool))) (c45_ : List GFile) (d43_ : ByteArray) (d44_ : ByteArray) (c42_ : List GFile) (b47_ : Int) (e46_ : Bool) (e50_ : Bool) : Option (Out ((List GFile) × Bool) ((List GFile) × Bool)) :=
  if e50_ = true then
    if c45_.length + [GFile.mk d43_ d44_].length ≤ 1073741824 then
      (at' c42_ b47_).bind fun a51_ =>
      if (sEq a51_.gName d43_) = true then
        bk_ (c45_ ++ [GFile.mk d43_ d44_]) true (wr.i64 (b47_ + 1))
      else
        (at' c42_ b47_).bind fun a52_ =>
        if (c45_ ++ [GFile.mk d43_ d44_]).length + [a52_].length ≤ 1073741824 then
          bk_ ((c45_ ++ [GFile.mk d43_ d44_]) ++ [a52_]) true (wr.i64 (b47_ + 1))
        else none
    else none
  else
    (at' c42_ b47_).bind fun a53_ =>
    if c45_.length + [a53_].length ≤ 1073741824 then
      bk_ (c45_ ++ [a53_]) e46_ (wr.i64 (b47_ + 1))
    else none
def pspec_Stored_L1 (k : Nat) (c42_ : List GFile) (d43_ : ByteArray) (d44_ : ByteArray) : Nat → (List GFile) → Bool → Int → Option (Out ((List GFile) × Bool) ((List GFile) × Bool))
  | 0, _, _, _ => none
  | m + 1, c45_, e46_, b47_ =>
    if (decide (b47_ < (c42_.length : Int))) = true then
      if (!e46_) = true then
        (at' c42_ b47_).bind fun a54_ =>
        pspec_Stored_J2 k (pspec_Stored_L1 k c42_ d43_ d44_ m) c45_ d43_ d44_ c42_ b47_ e46_ (!(sLt a54_.gName d43_))
      else
        pspec_Stored_J2 k (pspec_Stored_L1 k c42_ d43_ d44_ m) c45_ d43_ d44_ c42_ b47_ e46_ false
    else
      some (.done (c45_, e46_))
def pspec_Stored_J4 (k : Nat) (c42_ : List GFile) (c55_ : List GFile) (e56_ : Bool) : Option ((List GFile) × Bool) :=
  if e56_ = true then
    if ([] : List GFile).length + c42_.length ≤ 1073741824 then
      some (c42_, false)
    else none
  else
    some (c55_, true)
def pspec_Stored_J3 (k : Nat) (c42_ : List GFile) (c55_ : List GFile) : Option ((List GFile) × Bool) :=
  (pspec_FilesOk k c55_).bind fun e57_ =>
  if (!e57_) = true then
    pspec_Stored_J4 k c42_ c55_ true
  else
    (pspec_FilesOk k c42_).bind fun e58_ =>
    pspec_Stored_J4 k c42_ c55_ (!e58_)
/-- spec.Stored -/
def pspec_Stored (k : Nat) (c42_ : List GFile) (d43_ : ByteArray) (d44_ : ByteArray) : Option ((List GFile) × Bool) :=
  (pspec_Stored_L1 k c42_ d43_ d44_ k [] false 0).bind fun out1 => match out1 with
  | .ret r => some r
  | .done (c48_, e49_) =>
    if (!e49_) = true then
      if c48_.length + [GFile.mk d43_ d44_].length ≤ 1073741824 then
        pspec_Stored_J3 k c42_ (c48_ ++ [GFile.mk d43_ d44_])
      else none
    else
      pspec_Stored_J3 k c42_ c48_
set_option maxHeartbeats 4000000 in
theorem cspec_Stored {k : Nat} {c42_ : List GFile} {d43_ : ByteArray} {d44_ : ByteArray} {r : (List GFile) × Bool} (h : pspec_Stored k c42_ d43_ d44_ = some r) : FnO Try.prog 6 [.v (.sl (List.map GFile.c c42_)) [], .v (.str d43_) [], .v (.str d44_) []] (.v (.tup [.sl (List.map GFile.c r.1), .bool r.2]) [(0, .app 47)]) [] := by
  refine FnO.of Try.func6 (rfl : Try.f6.body = some _) (Nat.le_of_ble_eq_true (by kernel_rfl)) (Nat.le_of_ble_eq_true (by kernel_rfl)) ?_
  intro w0 X0 Fin pv0 pb gt
  unfold pspec_Stored at h
  refine Wc.seq ?_
  refine Wc.region [] [] [0, 1, 2] [] [] ⟨[(0, (.v (.sl (List.map GFile.c c42_)), [])), (1, (.v (.str d43_), [])), (2, (.v (.str d44_), []))], [], []⟩ _ (by kernel_rfl) .nil ?_
  refine Wc.seq ?_
  refine Wc.region [{ c := some (List.map GFile.c []) }, { tk := [11] }] [] [0, 1, 2, 8] [] [] ⟨[(0, (.v (.sl (List.map GFile.c c42_)), [])), (1, (.v (.str d43_), [])), (2, (.v (.str d44_), [])), (8, (.v (.sl (List.map GFile.c [])), [(0, .app 47)]))], [], []⟩ _ (by kernel_rfl) (.cons (cl_nil GFile.c) .nil) ?_
  refine Wc.seq ?_
  refine Wc.region [] [] [0, 1, 2, 8, 9] [] [] ⟨[(0, (.v (.sl (List.map GFile.c c42_)), [])), (1, (.v (.str d43_), [])), (2, (.v (.str d44_), [])), (8, (.v (.sl (List.map GFile.c [])), [(0, .app 47)])), (9, (.v (.bool false), []))], [], []⟩ _ (by kernel_rfl) .nil ?_
  refine Wc.seq ?_
  refine Wc.seq ?_
  refine Wc.region [] [] [0, 1, 2, 8, 9, 10] [] [] ⟨[(0, (.v (.sl (List.map GFile.c c42_)), [])), (1, (.v (.str d43_), [])), (2, (.v (.str d44_), [])), (8, (.v (.sl (List.map GFile.c [])), [(0, .app 47)])), (9, (.v (.bool false), [])), (10, (.v (.int .i64 0), []))], [], []⟩ _ (by kernel_rfl) .nil ?_
  obtain ⟨out1, h47, h⟩ := obind h
  refine Wc.lastJ (fun st => ∃ (c48_ : List GFile) (e49_ : Bool), out1 = .done (c48_, e49_) ∧ st = ⟨[(0, (.v (.sl (List.map GFile.c c42_)), [])), (1, (.v (.str d43_), [])), (2, (.v (.str d44_), [])), (8, (.v (.sl (List.map GFile.c c48_)), [(0, .app 47)])), (9, (.v (.bool e49_), []))], [], []⟩) ?_ ?_
  · refine Wc.block ?_
    refine Wc.loop (fun m st => ∃ (c45_ : List GFile) (e46_ : Bool) (b47_ : Int), st = ⟨[(0, (.v (.sl (List.map GFile.c c42_)), [])), (1, (.v (.str d43_), [])), (2, (.v (.str d44_), [])), (8, (.v (.sl (List.map GFile.c c45_)), [(0, .app 47)])), (9, (.v (.bool e46_), [])), (10, (.v (.int .i64 b47_), []))], [], []⟩ ∧ pspec_Stored_L1 k c42_ d43_ d44_ m c45_ e46_ b47_ = some out1) ?_ k ⟨_, _, _, rfl, h47⟩
    rintro m st ⟨c45_, e46_, b47_, rfl, h47⟩
    cases m with
    | zero => exact (onone h47).elim
    | succ m =>
      refine Wc.seq ?_
      refine Wc.seq ?_
      refine Wc.region [{}, {}, { v := some (.int .i64 (c42_.length : Int)) }] [] [0, 1, 2, 8, 9, 10, 15] [] [] ⟨[(0, (.v (.sl (List.map GFile.c c42_)), [])), (1, (.v (.str d43_), [])), (2, (.v (.str d44_), [])), (8, (.v (.sl (List.map GFile.c c45_)), [(0, .app 47)])), (9, (.v (.bool e46_), [])), (10, (.v (.int .i64 b47_), [])), (15, (.v (.bool (decide (b47_ < (c42_.length : Int)))), []))], [], []⟩ _ (by kernel_rfl) (.cons (len_obl GFile.c c42_) .nil) ?_
      rcases oif h47 with ⟨h48, h47⟩ | ⟨h48, h47⟩
      · refine Wc.condT h48 (by kernel_rfl) ?_
        refine Wc.fix (st' := ⟨[(0, (.v (.sl (List.map GFile.c c42_)), [])), (1, (.v (.str d43_), [])), (2, (.v (.str d44_), [])), (8, (.v (.sl (List.map GFile.c c45_)), [(0, .app 47)])), (9, (.v (.bool e46_), [])), (10, (.v (.int .i64 b47_), []))], [], []⟩) [] [0, 1, 2, 8, 9, 10] [] [] (by kernel_rfl) ?_
        refine Wc.skip ?_
        refine Wc.seq ?_
        refine Wc.block ?_
        refine Wc.seq ?_
        refine Wc.seqJ (fun st => ∃ (e50_ : Bool), st = ⟨[(0, (.v (.sl (List.map GFile.c c42_)), [])), (1, (.v (.str d43_), [])), (2, (.v (.str d44_), [])), (8, (.v (.sl (List.map GFile.c c45_)), [(0, .app 47)])), (9, (.v (.bool e46_), [])), (10, (.v (.int .i64 b47_), [])), (28, (.v (.bool e50_), []))], [], []⟩ ∧ pspec_Stored_J2 k (pspec_Stored_L1 k c42_ d43_ d44_ m) c45_ d43_ d44_ c42_ b47_ e46_ e50_ = some out1) ?_ ?_
        · rcases oif h47 with ⟨h57, h47⟩ | ⟨h57, h47⟩
          · obtain ⟨a54_, h58, h47⟩ := obind h47
            refine Wc.region [{}, {}, { re := some (.bool true) }, {}, {}, { v := some (.vptr [.str a54_.gName, .str a54_.gText]) }] [] [0, 1, 2, 8, 9, 10, 28] [] [] ⟨[(0, (.v (.sl (List.map GFile.c c42_)), [])), (1, (.v (.str d43_), [])), (2, (.v (.str d44_), [])), (8, (.v (.sl (List.map GFile.c c45_)), [(0, .app 47)])), (9, (.v (.bool e46_), [])), (10, (.v (.int .i64 b47_), [])), (28, (.v (.bool (!(sLt a54_.gName d43_))), []))], [], []⟩ _ (by kernel_rfl) (.cons (congrArg AV.bool h57) (.cons (at_obl (c := GFile.c) (GFile.c_eq a54_) GFile.c_len h58) (.cons (len_ok 1 [.str a54_.gName, .str a54_.gText]) .nil))) ?_
            exact ⟨_, rfl, h47⟩
          · refine Wc.region [{}, {}, { re := some (.bool false) }] [] [0, 1, 2, 8, 9, 10, 28] [] [] ⟨[(0, (.v (.sl (List.map GFile.c c42_)), [])), (1, (.v (.str d43_), [])), (2, (.v (.str d44_), [])), (8, (.v (.sl (List.map GFile.c c45_)), [(0, .app 47)])), (9, (.v (.bool e46_), [])), (10, (.v (.int .i64 b47_), [])), (28, (.v (.bool false), []))], [], []⟩ _ (by kernel_rfl) (.cons (congrArg AV.bool h57) .nil) ?_
            exact ⟨_, rfl, h47⟩
        · rintro st ⟨e50_, rfl, h47⟩
          rcases oif h47 with ⟨h49, h47⟩ | ⟨h49, h47⟩
          · refine Wc.condT h49 (by kernel_rfl) ?_
            refine Wc.seq ?_
            obtain ⟨h50, h47⟩ := oguard h47
            refine Wc.region [{ tk := [8] }, {}, {}, {}, { c := some (List.map GFile.c [GFile.mk d43_ d44_]) }, { c := some (List.map GFile.c (c45_ ++ [GFile.mk d43_ d44_])), tk := [29] }, { tk := [34] }] [] [0, 1, 2, 8, 10] [] [] ⟨[(0, (.v (.sl (List.map GFile.c c42_)), [])), (1, (.v (.str d43_), [])), (2, (.v (.str d44_), [])), (8, (.v (.sl (List.map GFile.c (c45_ ++ [GFile.mk d43_ d44_]))), [(0, .app 47)])), (10, (.v (.int .i64 b47_), []))], [], []⟩ _ (by kernel_rfl) (.cons (cl_cons (c := GFile.c) (x := GFile.mk d43_ d44_) (GFile.c_eq (GFile.mk d43_ d44_)) (cl_nil GFile.c)) (.cons (app_re2 GFile.c c45_ [GFile.mk d43_ d44_]) (.cons (app_leaf (c := GFile.c) (ys := [GFile.mk d43_ d44_]) GFile.c_leaf) (.cons (app_obl2 (c := GFile.c) (xs := c45_) (ys := [GFile.mk d43_ d44_]) GFile.c_len h50) .nil)))) ?_
            refine Wc.seq ?_
            refine Wc.region [] [] [0, 1, 2, 8, 9, 10] [] [] ⟨[(0, (.v (.sl (List.map GFile.c c42_)), [])), (1, (.v (.str d43_), [])), (2, (.v (.str d44_), [])), (8, (.v (.sl (List.map GFile.c (c45_ ++ [GFile.mk d43_ d44_]))), [(0, .app 47)])), (9, (.v (.bool true), [])), (10, (.v (.int .i64 b47_), []))], [], []⟩ _ (by kernel_rfl) .nil ?_
            refine Wc.seq ?_
            obtain ⟨a51_, h51, h47⟩ := obind h47
            refine Wc.region [{}, {}, { v := some (.vptr [.str a51_.gName, .str a51_.gText]) }] [] [0, 1, 2, 8, 9, 10, 41] [] [] ⟨[(0, (.v (.sl (List.map GFile.c c42_)), [])), (1, (.v (.str d43_), [])), (2, (.v (.str d44_), [])), (8, (.v (.sl (List.map GFile.c (c45_ ++ [GFile.mk d43_ d44_]))), [(0, .app 47)])), (9, (.v (.bool true), [])), (10, (.v (.int .i64 b47_), [])), (41, (.v (.bool (sEq a51_.gName d43_)), []))], [], []⟩ _ (by kernel_rfl) (.cons (at_obl (c := GFile.c) (GFile.c_eq a51_) GFile.c_len h51) (.cons (len_ok 1 [.str a51_.gName, .str a51_.gText]) .nil)) ?_
            rcases oif h47 with ⟨h52, h47⟩ | ⟨h52, h47⟩
            · refine Wc.condT h52 (by kernel_rfl) ?_
              refine Wc.fix (st' := ⟨[(0, (.v (.sl (List.map GFile.c c42_)), [])), (1, (.v (.str d43_), [])), (2, (.v (.str d44_), [])), (8, (.v (.sl (List.map GFile.c (c45_ ++ [GFile.mk d43_ d44_]))), [(0, .app 47)])), (9, (.v (.bool true), [])), (10, (.v (.int .i64 b47_), []))], [], []⟩) [] [0, 1, 2, 8, 9, 10] [] [] (by kernel_rfl) ?_
              refine Wc.exit ?_
              refine Wc.region [] [] [0, 1, 2, 8, 9, 10] [] [] ⟨[(0, (.v (.sl (List.map GFile.c c42_)), [])), (1, (.v (.str d43_), [])), (2, (.v (.str d44_), [])), (8, (.v (.sl (List.map GFile.c (c45_ ++ [GFile.mk d43_ d44_]))), [(0, .app 47)])), (9, (.v (.bool true), [])), (10, (.v (.int .i64 (wr.i64 (b47_ + 1))), []))], [], []⟩ _ (by kernel_rfl) .nil ?_
              exact ⟨_, Nat.lt_succ_self _, _, _, _, rfl, h47⟩
            · refine Wc.condF h52 (by kernel_rfl) ?_
              refine Wc.fix (st' := ⟨[(0, (.v (.sl (List.map GFile.c c42_)), [])), (1, (.v (.str d43_), [])), (2, (.v (.str d44_), [])), (8, (.v (.sl (List.map GFile.c (c45_ ++ [GFile.mk d43_ d44_]))), [(0, .app 47)])), (9, (.v (.bool true), [])), (10, (.v (.int .i64 b47_), []))], [], []⟩) [] [0, 1, 2, 8, 9, 10] [] [] (by kernel_rfl) ?_
              refine Wc.skip ?_
              obtain ⟨a52_, h53, h47⟩ := obind h47
              obtain ⟨h54, h47⟩ := oguard h47
              refine Wc.region [{ tk := [8] }, {}, {}, { v := some (.vptr [.str a52_.gName, .str a52_.gText]) }, {}, { c := some (List.map GFile.c [a52_]) }, { c := some (List.map GFile.c ((c45_ ++ [GFile.mk d43_ d44_]) ++ [a52_])), tk := [42] }, { tk := [48] }] [] [0, 1, 2, 8, 9, 10] [] [] ⟨[(0, (.v (.sl (List.map GFile.c c42_)), [])), (1, (.v (.str d43_), [])), (2, (.v (.str d44_), [])), (8, (.v (.sl (List.map GFile.c ((c45_ ++ [GFile.mk d43_ d44_]) ++ [a52_]))), [(0, .app 47)])), (9, (.v (.bool true), [])), (10, (.v (.int .i64 b47_), []))], [], []⟩ _ (by kernel_rfl) (.cons (at_obl (c := GFile.c) (GFile.c_eq a52_) GFile.c_len h53) (.cons (len_ok 2 [.str a52_.gName, .str a52_.gText]) (.cons (cl_cons (c := GFile.c) (x := a52_) (GFile.c_eq a52_) (cl_nil GFile.c)) (.cons (app_re2 GFile.c (c45_ ++ [GFile.mk d43_ d44_]) [a52_]) (.cons (app_leaf (c := GFile.c) (ys := [a52_]) GFile.c_leaf) (.cons (app_obl2 (c := GFile.c) (xs := (c45_ ++ [GFile.mk d43_ d44_])) (ys := [a52_]) GFile.c_len h54) .nil)))))) ?_
              refine Wc.region [] [] [0, 1, 2, 8, 9, 10] [] [] ⟨[(0, (.v (.sl (List.map GFile.c c42_)), [])), (1, (.v (.str d43_), [])), (2, (.v (.str d44_), [])), (8, (.v (.sl (List.map GFile.c ((c45_ ++ [GFile.mk d43_ d44_]) ++ [a52_]))), [(0, .app 47)])), (9, (.v (.bool true), [])), (10, (.v (.int .i64 (wr.i64 (b47_ + 1))), []))], [], []⟩ _ (by kernel_rfl) .nil ?_
              exact ⟨_, Nat.lt_succ_self _, _, _, _, rfl, h47⟩
          · refine Wc.condF h49 (by kernel_rfl) ?_
            refine Wc.fix (st' := ⟨[(0, (.v (.sl (List.map GFile.c c42_)), [])), (1, (.v (.str d43_), [])), (2, (.v (.str d44_), [])), (8, (.v (.sl (List.map GFile.c c45_)), [(0, .app 47)])), (9, (.v (.bool e46_), [])), (10, (.v (.int .i64 b47_), []))], [], []⟩) [] [0, 1, 2, 8, 9, 10] [] [] (by kernel_rfl) ?_
            refine Wc.skip ?_
            obtain ⟨a53_, h55, h47⟩ := obind h47
            obtain ⟨h56, h47⟩ := oguard h47
            refine Wc.region [{ tk := [8] }, {}, {}, { v := some (.vptr [.str a53_.gName, .str a53_.gText]) }, {}, { c := some (List.map GFile.c [a53_]) }, { c := some (List.map GFile.c (c45_ ++ [a53_])), tk := [42] }, { tk := [48] }] [] [0, 1, 2, 8, 9, 10] [] [] ⟨[(0, (.v (.sl (List.map GFile.c c42_)), [])), (1, (.v (.str d43_), [])), (2, (.v (.str d44_), [])), (8, (.v (.sl (List.map GFile.c (c45_ ++ [a53_]))), [(0, .app 47)])), (9, (.v (.bool e46_), [])), (10, (.v (.int .i64 b47_), []))], [], []⟩ _ (by kernel_rfl) (.cons (at_obl (c := GFile.c) (GFile.c_eq a53_) GFile.c_len h55) (.cons (len_ok 2 [.str a53_.gName, .str a53_.gText]) (.cons (cl_cons (c := GFile.c) (x := a53_) (GFile.c_eq a53_) (cl_nil GFile.c)) (.cons (app_re2 GFile.c c45_ [a53_]) (.cons (app_leaf (c := GFile.c) (ys := [a53_]) GFile.c_leaf) (.cons (app_obl2 (c := GFile.c) (xs := c45_) (ys := [a53_]) GFile.c_len h56) .nil)))))) ?_
            refine Wc.region [] [] [0, 1, 2, 8, 9, 10] [] [] ⟨[(0, (.v (.sl (List.map GFile.c c42_)), [])), (1, (.v (.str d43_), [])), (2, (.v (.str d44_), [])), (8, (.v (.sl (List.map GFile.c (c45_ ++ [a53_]))), [(0, .app 47)])), (9, (.v (.bool e46_), [])), (10, (.v (.int .i64 (wr.i64 (b47_ + 1))), []))], [], []⟩ _ (by kernel_rfl) .nil ?_
            exact ⟨_, Nat.lt_succ_self _, _, _, _, rfl, h47⟩
      · refine Wc.condF h48 (by kernel_rfl) ?_
        refine Wc.fix (st' := ⟨[(0, (.v (.sl (List.map GFile.c c42_)), [])), (1, (.v (.str d43_), [])), (2, (.v (.str d44_), [])), (8, (.v (.sl (List.map GFile.c c45_)), [(0, .app 47)])), (9, (.v (.bool e46_), []))], [], []⟩) [] [0, 1, 2, 8, 9] [] [] (by kernel_rfl) ?_
        refine Wc.exit ?_
        obtain rfl := Option.some.inj h47
        exact ⟨_, _, rfl, rfl⟩
  · rintro st ⟨c48_, e49_, rfl, rfl⟩
    refine Wc.seqJ (fun st => ∃ (c55_ : List GFile), st = ⟨[(0, (.v (.sl (List.map GFile.c c42_)), [])), (8, (.v (.sl (List.map GFile.c c55_)), [(0, .app 47)]))], [], []⟩ ∧ pspec_Stored_J3 k c42_ c55_ = some r) ?_ ?_
    · refine Wc.seq ?_
      refine Wc.region [] [] [0, 1, 2, 8, 50] [] [] ⟨[(0, (.v (.sl (List.map GFile.c c42_)), [])), (1, (.v (.str d43_), [])), (2, (.v (.str d44_), [])), (8, (.v (.sl (List.map GFile.c c48_)), [(0, .app 47)])), (50, (.v (.bool (!e49_)), []))], [], []⟩ _ (by kernel_rfl) .nil ?_
      rcases oif h with ⟨h64, h⟩ | ⟨h64, h⟩
      · refine Wc.condT h64 (by kernel_rfl) ?_
        obtain ⟨h65, h⟩ := oguard h
        refine Wc.region [{ tk := [8] }, {}, {}, {}, { c := some (List.map GFile.c [GFile.mk d43_ d44_]) }, { c := some (List.map GFile.c (c48_ ++ [GFile.mk d43_ d44_])), tk := [51] }, { tk := [56] }] [] [0, 8] [] [] ⟨[(0, (.v (.sl (List.map GFile.c c42_)), [])), (8, (.v (.sl (List.map GFile.c (c48_ ++ [GFile.mk d43_ d44_]))), [(0, .app 47)]))], [], []⟩ _ (by kernel_rfl) (.cons (cl_cons (c := GFile.c) (x := GFile.mk d43_ d44_) (GFile.c_eq (GFile.mk d43_ d44_)) (cl_nil GFile.c)) (.cons (app_re2 GFile.c c48_ [GFile.mk d43_ d44_]) (.cons (app_leaf (c := GFile.c) (ys := [GFile.mk d43_ d44_]) GFile.c_leaf) (.cons (app_obl2 (c := GFile.c) (xs := c48_) (ys := [GFile.mk d43_ d44_]) GFile.c_len h65) .nil)))) ?_
        exact ⟨_, rfl, h⟩
      · refine Wc.condF h64 (by kernel_rfl) ?_
        refine Wc.fix (st' := ⟨[(0, (.v (.sl (List.map GFile.c c42_)), [])), (8, (.v (.sl (List.map GFile.c c48_)), [(0, .app 47)]))], [], []⟩) [] [0, 8] [] [] (by kernel_rfl) ?_
        refine Wc.skip ?_
        exact ⟨_, rfl, h⟩
    · rintro st ⟨c55_, rfl, h⟩
      refine Wc.seq ?_
      refine Wc.seqJ (fun st => ∃ (e56_ : Bool), st = ⟨[(0, (.v (.sl (List.map GFile.c c42_)), [])), (8, (.v (.sl (List.map GFile.c c55_)), [(0, .app 47)])), (64, (.v (.bool e56_), []))], [], []⟩ ∧ pspec_Stored_J4 k c42_ c55_ e56_ = some r) ?_ ?_
      · obtain ⟨e57_, h61, h⟩ := obind h
        rcases oif h with ⟨h62, h⟩ | ⟨h62, h⟩
        · refine Wc.region [{}, { r := some (.v (.bool e57_) []) }, {}, { re := some (.bool true) }] [] [0, 8, 64] [] [] ⟨[(0, (.v (.sl (List.map GFile.c c42_)), [])), (8, (.v (.sl (List.map GFile.c c55_)), [(0, .app 47)])), (64, (.v (.bool true), []))], [], []⟩ _ (by kernel_rfl) (.cons (cspec_FilesOk h61) (.cons (congrArg AV.bool h62) .nil)) ?_
          exact ⟨_, rfl, h⟩
        · obtain ⟨e58_, h63, h⟩ := obind h
          refine Wc.region [{}, { r := some (.v (.bool e57_) []) }, {}, { re := some (.bool false) }, {}, { r := some (.v (.bool e58_) []) }] [] [0, 8, 64] [] [] ⟨[(0, (.v (.sl (List.map GFile.c c42_)), [])), (8, (.v (.sl (List.map GFile.c c55_)), [(0, .app 47)])), (64, (.v (.bool (!e58_)), []))], [], []⟩ _ (by kernel_rfl) (.cons (cspec_FilesOk h61) (.cons (congrArg AV.bool h62) (.cons (cspec_FilesOk h63) .nil))) ?_
          exact ⟨_, rfl, h⟩
      · rintro st ⟨e56_, rfl, h⟩
        rcases oif h with ⟨h59, h⟩ | ⟨h59, h⟩
        · refine Wc.condT h59 (by kernel_rfl) ?_
          refine Wc.seq ?_
          obtain ⟨h60, h⟩ := oguard h
          refine Wc.region [{ c := some (List.map GFile.c []) }, {}, { c := some (List.map GFile.c c42_), tk := [65] }, { tk := [67] }] [] [6, 7] [] [] ⟨[(6, (.v (.sl (List.map GFile.c c42_)), [(0, .app 47)])), (7, (.v (.bool false), []))], [], []⟩ _ (by kernel_rfl) (.cons (cl_nil GFile.c) (.cons (app_re0 GFile.c c42_) (.cons (app_leaf (c := GFile.c) (ys := c42_) GFile.c_leaf) (.cons (app_obl2 (c := GFile.c) (xs := []) (ys := c42_) GFile.c_len h60) .nil)))) ?_
          refine Wc.ret ?_
          obtain rfl := Option.some.inj h
          exact ⟨.inl rfl, by kernel_rfl, by kernel_rfl⟩
        · refine Wc.condF h59 (by kernel_rfl) ?_
          refine Wc.fix (st' := ⟨[(8, (.v (.sl (List.map GFile.c c55_)), [(0, .app 47)]))], [], []⟩) [] [8] [] [] (by kernel_rfl) ?_
          refine Wc.skip ?_
          refine Wc.seq ?_
          refine Wc.region [{ tk := [8] }, { tk := [68] }] [] [6, 7] [] [] ⟨[(6, (.v (.sl (List.map GFile.c c55_)), [(0, .app 47)])), (7, (.v (.bool true), []))], [], []⟩ _ (by kernel_rfl) .nil ?_
          refine Wc.ret ?_
          obtain rfl := Option.some.inj h
          exact ⟨.inl rfl, by kernel_rfl, by kernel_rfl⟩

/-- laws.toFile -/
def plaws_toFile (k : Nat) (a59_ : GFile) : Option GFile :=
  some a59_
theorem claws_toFile {k : Nat} {a59_ : GFile} {r : GFile} (h : plaws_toFile k a59_ = some r) : FnO Try.prog 21 [.v (.agg [.str a59_.gName, .str a59_.gText]) []] (.v (.agg [.str r.gName, .str r.gText]) []) [] := by
  refine FnO.of Try.func21 (rfl : Try.f21.body = some _) (Nat.le_of_ble_eq_true (by kernel_rfl)) (Nat.le_of_ble_eq_true (by kernel_rfl)) ?_
  intro w0 X0 Fin pv0 pb gt
  unfold plaws_toFile at h
  refine Wc.seq ?_
  refine Wc.region [] [] [1, 2] [1, 2] [] ⟨[(1, (.ptr 1 0, [])), (2, (.ptr 2 0, []))], [(1, .cells [.str a59_.gName, .str a59_.gText] []), (2, .cells [.str (bs []), .str (bs [])] [])], []⟩ _ (by kernel_rfl) .nil ?_
  refine Wc.seq ?_
  refine Wc.region [] [] [1, 2, 3] [1, 2, 3] [] ⟨[(1, (.ptr 1 0, [])), (2, (.ptr 2 0, [])), (3, (.ptr 3 0, []))], [(1, .cells [.str a59_.gName, .str a59_.gText] []), (2, .cells [.str (bs []), .str (bs [])] []), (3, .cells [.str (bs []), .str (bs [])] [])], []⟩ _ (by kernel_rfl) .nil ?_
  refine Wc.seq ?_
  refine Wc.region [] [] [1, 2, 3] [1, 2, 3] [] ⟨[(1, (.ptr 1 0, [])), (2, (.ptr 2 0, [])), (3, (.ptr 3 0, []))], [(1, .cells [.str a59_.gName, .str a59_.gText] []), (2, .cells [.str (bs []), .str (bs [])] []), (3, .cells [.str a59_.gName, .str (bs [])] [])], []⟩ _ (by kernel_rfl) .nil ?_
  refine Wc.seq ?_
  refine Wc.region [] [] [2, 3] [2, 3] [] ⟨[(2, (.ptr 2 0, [])), (3, (.ptr 3 0, []))], [(2, .cells [.str (bs []), .str (bs [])] []), (3, .cells [.str a59_.gName, .str a59_.gText] [])], []⟩ _ (by kernel_rfl) .nil ?_
  refine Wc.seq ?_
  refine Wc.region [] [] [2] [2] [] ⟨[(2, (.ptr 2 0, []))], [(2, .cells [.str a59_.gName, .str a59_.gText] [])], []⟩ _ (by kernel_rfl) .nil ?_
  refine Wc.ret ?_
  obtain rfl := Option.some.inj h
  exact ⟨.inl rfl, by kernel_rfl, by kernel_rfl⟩

def plaws_toFileS_L1 (k : Nat) (c60_ : List GFile) : Nat → (List GFile) → Int → Option (Out (List GFile) (List GFile))
  | 0, _, _ => none
  | m + 1, c61_, b62_ =>
    if (decide (b62_ < (c60_.length : Int))) = true then
      (at' c60_ b62_).bind fun a64_ =>
      (plaws_toFile k a64_).bind fun a65_ =>
      (at' c61_ b62_).bind fun a66_ =>
      plaws_toFileS_L1 k c60_ m (c61_.set ((b62_).toNat) a65_) (wr.i64 (b62_ + 1))
    else
      some (.done c61_)
/-- laws.toFileS -/
def plaws_toFileS (k : Nat) (c60_ : List GFile) : Option (List GFile) :=
  if 0 ≤ (c60_.length : Int) ∧ (c60_.length : Int) ≤ 1073741824 then
    (plaws_toFileS_L1 k c60_ k (List.replicate ((c60_.length : Int)).toNat (GFile.mk (bs []) (bs []))) 0).bind fun out1 => match out1 with
    | .ret r => some r
    | .done c63_ =>
      some c63_
  else none
theorem claws_toFileS {k : Nat} {c60_ : List GFile} {r : (List GFile)} (h : plaws_toFileS k c60_ = some r) : FnO Try.prog 7 [.v (.sl (List.map GFile.c c60_)) []] (.v (.sl (List.map GFile.c r)) []) [] := by
  refine FnO.of Try.func7 (rfl : Try.f7.body = some _) (Nat.le_of_ble_eq_true (by kernel_rfl)) (Nat.le_of_ble_eq_true (by kernel_rfl)) ?_
  intro w0 X0 Fin pv0 pb gt
  unfold plaws_toFileS at h
  refine Wc.seq ?_
  refine Wc.region [] [] [0] [] [] ⟨[(0, (.v (.sl (List.map GFile.c c60_)), []))], [], []⟩ _ (by kernel_rfl) .nil ?_
  refine Wc.seq ?_
  obtain ⟨h66, h⟩ := oguard h
  refine Wc.region [{}, { v := some (.int .i64 (c60_.length : Int)) }, { c := some (List.map GFile.c (List.replicate ((c60_.length : Int)).toNat (GFile.mk (bs []) (bs [])))) }, { tk := [7] }] [] [0, 3] [] [] ⟨[(0, (.v (.sl (List.map GFile.c c60_)), [])), (3, (.v (.slx), [(0, .ex 47 true (List.map GFile.c (List.replicate ((c60_.length : Int)).toNat (GFile.mk (bs []) (bs [])))))]))], [], []⟩ _ (by kernel_rfl) (.cons (len_obl GFile.c c60_) (.cons (rep_re (c := GFile.c) (z := (GFile.mk (bs []) (bs []))) (GFile.c_eq (GFile.mk (bs []) (bs []))) ((c60_.length : Int)).toNat) (.cons (ms_obl h66) .nil))) ?_
  refine Wc.seq ?_
  refine Wc.seq ?_
  refine Wc.region [] [] [0, 3, 4] [] [] ⟨[(0, (.v (.sl (List.map GFile.c c60_)), [])), (3, (.v (.slx), [(0, .ex 47 true (List.map GFile.c (List.replicate ((c60_.length : Int)).toNat (GFile.mk (bs []) (bs [])))))])), (4, (.v (.int .i64 0), []))], [], []⟩ _ (by kernel_rfl) .nil ?_
  obtain ⟨out1, h67, h⟩ := obind h
  refine Wc.lastJ (fun st => ∃ (c63_ : List GFile), out1 = .done c63_ ∧ st = ⟨[(3, (.v (.slx), [(0, .ex 47 true (List.map GFile.c c63_))]))], [], []⟩) ?_ ?_
  · refine Wc.block ?_
    refine Wc.loop (fun m st => ∃ (c61_ : List GFile) (b62_ : Int), st = ⟨[(0, (.v (.sl (List.map GFile.c c60_)), [])), (3, (.v (.slx), [(0, .ex 47 true (List.map GFile.c c61_))])), (4, (.v (.int .i64 b62_), []))], [], []⟩ ∧ plaws_toFileS_L1 k c60_ m c61_ b62_ = some out1) ?_ k ⟨_, _, rfl, h67⟩
    rintro m st ⟨c61_, b62_, rfl, h67⟩
    cases m with
    | zero => exact (onone h67).elim
    | succ m =>
      refine Wc.seq ?_
      refine Wc.seq ?_
      refine Wc.region [{}, {}, { v := some (.int .i64 (c60_.length : Int)) }] [] [0, 3, 4, 11] [] [] ⟨[(0, (.v (.sl (List.map GFile.c c60_)), [])), (3, (.v (.slx), [(0, .ex 47 true (List.map GFile.c c61_))])), (4, (.v (.int .i64 b62_), [])), (11, (.v (.bool (decide (b62_ < (c60_.length : Int)))), []))], [], []⟩ _ (by kernel_rfl) (.cons (len_obl GFile.c c60_) .nil) ?_
      rcases oif h67 with ⟨h68, h67⟩ | ⟨h68, h67⟩
      · refine Wc.condT h68 (by kernel_rfl) ?_
        refine Wc.fix (st' := ⟨[(0, (.v (.sl (List.map GFile.c c60_)), [])), (3, (.v (.slx), [(0, .ex 47 true (List.map GFile.c c61_))])), (4, (.v (.int .i64 b62_), []))], [], []⟩) [] [0, 3, 4] [] [] (by kernel_rfl) ?_
        refine Wc.skip ?_
        refine Wc.seq ?_
        refine Wc.block ?_
        obtain ⟨a64_, h69, h67⟩ := obind h67
        obtain ⟨a65_, h70, h67⟩ := obind h67
        obtain ⟨a66_, h71, h67⟩ := obind h67
        refine Wc.region [{}, {}, {}, {}, { v := some (.vptr [.str a64_.gName, .str a64_.gText]) }, {}, { r := some (.v (.agg [.str a65_.gName, .str a65_.gText]) []) }, {}, { c := some (List.map GFile.c (c61_.set ((b62_).toNat) a65_)) }] [] [0, 3, 4] [] [] ⟨[(0, (.v (.sl (List.map GFile.c c60_)), [])), (3, (.v (.slx), [(0, .ex 47 true (List.map GFile.c (c61_.set ((b62_).toNat) a65_)))])), (4, (.v (.int .i64 b62_), []))], [], []⟩ _ (by kernel_rfl) (.cons (at_obl (c := GFile.c) (GFile.c_eq a64_) GFile.c_len h69) (.cons (len_ok 2 [.str a64_.gName, .str a64_.gText]) (.cons (claws_toFile h70) (.cons (ix_obl (c := GFile.c) GFile.c_len h71) (.cons (mod_obl (off := 0) (new := [.str a65_.gName, .str a65_.gText]) (c := GFile.c) (GFile.c_eq a66_) (GFile.c_eq a65_) (at'_spec h71).2 rfl) (.cons (st_obl (sz := 2) (off := 0) (s := 2) (c := GFile.c) (GFile.c_eq a66_) (at'_spec h71).2 rfl (Nat.le_of_ble_eq_true rfl)) .nil)))))) ?_
        refine Wc.region [] [] [0, 3, 4] [] [] ⟨[(0, (.v (.sl (List.map GFile.c c60_)), [])), (3, (.v (.slx), [(0, .ex 47 true (List.map GFile.c (c61_.set ((b62_).toNat) a65_)))])), (4, (.v (.int .i64 (wr.i64 (b62_ + 1))), []))], [], []⟩ _ (by kernel_rfl) .nil ?_
        exact ⟨_, Nat.lt_succ_self _, _, _, rfl, h67⟩
      · refine Wc.condF h68 (by kernel_rfl) ?_
        refine Wc.fix (st' := ⟨[(3, (.v (.slx), [(0, .ex 47 true (List.map GFile.c c61_))]))], [], []⟩) [] [3] [] [] (by kernel_rfl) ?_
        refine Wc.exit ?_
        obtain rfl := Option.some.inj h67
        exact ⟨_, rfl, rfl⟩
  · rintro st ⟨c63_, rfl, rfl⟩
    refine Wc.seq ?_
    refine Wc.region [{ tk := [3] }, { tk := [22] }] [] [2] [] [] ⟨[(2, (.v (.slx), [(0, .ex 47 true (List.map GFile.c c63_))]))], [], []⟩ _ (by kernel_rfl) .nil ?_
    refine Wc.fix (st' := ⟨[(2, (.v (.sl (List.map GFile.c c63_)), []))], [], []⟩) [.sh (.t 2 0)] [2] [] [] (by kernel_rfl) ?_
    refine Wc.ret ?_
    obtain rfl := Option.some.inj h
    exact ⟨.inl rfl, by kernel_rfl, by kernel_rfl⟩

/-- impl.within -/
def pimpl_within (k : Nat) (b67_ : Int) (b68_ : Int) (b69_ : Int) : Option Bool :=
  if (decide (b67_ ≥ b68_)) = true then
    some (decide (b67_ ≤ b69_))
  else
    some false
theorem cimpl_within {k : Nat} {b67_ : Int} {b68_ : Int} {b69_ : Int} {r : Bool} (h : pimpl_within k b67_ b68_ b69_ = some r) : FnO Try.prog 56 [.v (.int .i64 b67_) [], .v (.int .i64 b68_) [], .v (.int .i64 b69_) []] (.v (.bool r) []) [] := by
  refine FnO.of Try.func56 (rfl : Try.f56.body = some _) (Nat.le_of_ble_eq_true (by kernel_rfl)) (Nat.le_of_ble_eq_true (by kernel_rfl)) ?_
  intro w0 X0 Fin pv0 pb gt
  unfold pimpl_within at h
  refine Wc.seq ?_
  refine Wc.region [] [] [0, 1, 2] [] [] ⟨[(0, (.v (.int .i64 b67_), [])), (1, (.v (.int .i64 b68_), [])), (2, (.v (.int .i64 b69_), []))], [], []⟩ _ (by kernel_rfl) .nil ?_
  refine Wc.seq ?_
  rcases oif h with ⟨h72, h⟩ | ⟨h72, h⟩
  · refine Wc.region [{}, {}, {}, { re := some (.bool true) }] [] [6] [] [] ⟨[(6, (.v (.bool (decide (b67_ ≤ b69_))), []))], [], []⟩ _ (by kernel_rfl) (.cons (congrArg AV.bool h72) .nil) ?_
    refine Wc.ret ?_
    obtain rfl := Option.some.inj h
    exact ⟨.inl rfl, by kernel_rfl, by kernel_rfl⟩
  · refine Wc.region [{}, {}, {}, { re := some (.bool false) }] [] [6] [] [] ⟨[(6, (.v (.bool false), []))], [], []⟩ _ (by kernel_rfl) (.cons (congrArg AV.bool h72) .nil) ?_
    refine Wc.ret ?_
    obtain rfl := Option.some.inj h
    exact ⟨.inl rfl, by kernel_rfl, by kernel_rfl⟩

/-- impl.lower -/
def pimpl_lower (k : Nat) (b70_ : Int) : Option Bool :=
  if (decide (b70_ ≥ 97)) = true then
    some (decide (b70_ ≤ 122))
  else
    some false
theorem cimpl_lower {k : Nat} {b70_ : Int} {r : Bool} (h : pimpl_lower k b70_ = some r) : FnO Try.prog 58 [.v (.int .u8 b70_) []] (.v (.bool r) []) [] := by
  refine FnO.of Try.func58 (rfl : Try.f58.body = some _) (Nat.le_of_ble_eq_true (by kernel_rfl)) (Nat.le_of_ble_eq_true (by kernel_rfl)) ?_
  intro w0 X0 Fin pv0 pb gt
  unfold pimpl_lower at h
  refine Wc.seq ?_
  refine Wc.region [] [] [0] [] [] ⟨[(0, (.v (.int .u8 b70_), []))], [], []⟩ _ (by kernel_rfl) .nil ?_
  refine Wc.seq ?_
  rcases oif h with ⟨h73, h⟩ | ⟨h73, h⟩
  · refine Wc.region [{}, {}, { re := some (.bool true) }] [] [2] [] [] ⟨[(2, (.v (.bool (decide (b70_ ≤ 122))), []))], [], []⟩ _ (by kernel_rfl) (.cons (congrArg AV.bool h73) .nil) ?_
    refine Wc.ret ?_
    obtain rfl := Option.some.inj h
    exact ⟨.inl rfl, by kernel_rfl, by kernel_rfl⟩
  · refine Wc.region [{}, {}, { re := some (.bool false) }] [] [2] [] [] ⟨[(2, (.v (.bool false), []))], [], []⟩ _ (by kernel_rfl) (.cons (congrArg AV.bool h73) .nil) ?_
    refine Wc.ret ?_
    obtain rfl := Option.some.inj h
    exact ⟨.inl rfl, by kernel_rfl, by kernel_rfl⟩

def pimpl_run_on2_pimpl_lower_L1 (k : Nat) (d73_ : ByteArray) : Nat → Int → Option (Out Int Int)
  | 0, _ => none
  | m + 1, b75_ =>
    if (decide (b75_ < (d73_.size : Int))) = true then
      if 0 ≤ b75_ ∧ (b75_).toNat < d73_.size then
        (pimpl_lower k (bt d73_ b75_)).bind fun e77_ =>
        if e77_ = true then
          pimpl_run_on2_pimpl_lower_L1 k d73_ m (wr.i64 (b75_ + 1))
        else
          some (.done b75_)
      else none
    else
      some (.done b75_)
/-- impl.run -/
def pimpl_run_on2_pimpl_lower (k : Nat) (d73_ : ByteArray) (b74_ : Int) : Option Int :=
  (pimpl_run_on2_pimpl_lower_L1 k d73_ k b74_).bind fun out1 => match out1 with
  | .ret r => some r
  | .done b76_ =>
    some b76_
theorem cimpl_run_on2_pimpl_lower {k : Nat} {d73_ : ByteArray} {b74_ : Int} {r : Int} (h : pimpl_run_on2_pimpl_lower k d73_ b74_ = some r) : FnO Try.prog 57 [.v (.str d73_) [], .v (.int .i64 b74_) [], .v (.func 58 []) []] (.v (.int .i64 r) []) [] := by
  refine FnO.of Try.func57 (rfl : Try.f57.body = some _) (Nat.le_of_ble_eq_true (by kernel_rfl)) (Nat.le_of_ble_eq_true (by kernel_rfl)) ?_
  intro w0 X0 Fin pv0 pb gt
  unfold pimpl_run_on2_pimpl_lower at h
  refine Wc.seq ?_
  refine Wc.region [] [] [0, 1, 2] [] [] ⟨[(0, (.v (.str d73_), [])), (1, (.v (.int .i64 b74_), [])), (2, (.v (.func 58 []), []))], [], []⟩ _ (by kernel_rfl) .nil ?_
  obtain ⟨out1, h76, h⟩ := obind h
  refine Wc.seqJ (fun st => ∃ (b76_ : Int), out1 = .done b76_ ∧ st = ⟨[(1, (.v (.int .i64 b76_), []))], [], []⟩) ?_ ?_
  · refine Wc.block ?_
    refine Wc.loop (fun m st => ∃ (b75_ : Int), st = ⟨[(0, (.v (.str d73_), [])), (1, (.v (.int .i64 b75_), [])), (2, (.v (.func 58 []), []))], [], []⟩ ∧ pimpl_run_on2_pimpl_lower_L1 k d73_ m b75_ = some out1) ?_ k ⟨_, rfl, h76⟩
    rintro m st ⟨b75_, rfl, h76⟩
    cases m with
    | zero => exact (onone h76).elim
    | succ m =>
      refine Wc.seq ?_
      refine Wc.seq ?_
      rcases oif h76 with ⟨h77, h76⟩ | ⟨h77, h76⟩
      · obtain ⟨h78, h76⟩ := oguard h76
        obtain ⟨e77_, h79, h76⟩ := obind h76
        refine Wc.region [{}, {}, {}, {}, { re := some (.bool true) }, {}, {}, {}, {}, { r := some (.v (.bool e77_) []) }] [] [0, 1, 2, 17] [] [] ⟨[(0, (.v (.str d73_), [])), (1, (.v (.int .i64 b75_), [])), (2, (.v (.func 58 []), [])), (17, (.v (.bool e77_), []))], [], []⟩ _ (by kernel_rfl) (.cons (congrArg AV.bool h77) (.cons h78 (.cons (cimpl_lower h79) .nil))) ?_
        rcases oif h76 with ⟨h80, h76⟩ | ⟨h80, h76⟩
        · refine Wc.condT h80 (by kernel_rfl) ?_
          refine Wc.fix (st' := ⟨[(0, (.v (.str d73_), [])), (1, (.v (.int .i64 b75_), [])), (2, (.v (.func 58 []), []))], [], []⟩) [] [0, 1, 2] [] [] (by kernel_rfl) ?_
          refine Wc.skip ?_
          refine Wc.block ?_
          refine Wc.region [] [] [0, 1, 2] [] [] ⟨[(0, (.v (.str d73_), [])), (1, (.v (.int .i64 (wr.i64 (b75_ + 1))), [])), (2, (.v (.func 58 []), []))], [], []⟩ _ (by kernel_rfl) .nil ?_
          exact ⟨_, Nat.lt_succ_self _, _, rfl, h76⟩
        · refine Wc.condF h80 (by kernel_rfl) ?_
          refine Wc.fix (st' := ⟨[(1, (.v (.int .i64 b75_), []))], [], []⟩) [] [1] [] [] (by kernel_rfl) ?_
          refine Wc.exit ?_
          obtain rfl := Option.some.inj h76
          exact ⟨_, rfl, rfl⟩
      · refine Wc.region [{}, {}, {}, {}, { re := some (.bool false) }] [] [0, 1, 2, 17] [] [] ⟨[(0, (.v (.str d73_), [])), (1, (.v (.int .i64 b75_), [])), (2, (.v (.func 58 []), [])), (17, (.v (.bool false), []))], [], []⟩ _ (by kernel_rfl) (.cons (congrArg AV.bool h77) .nil) ?_
        refine Wc.condF rfl (by kernel_rfl) ?_
        refine Wc.fix (st' := ⟨[(1, (.v (.int .i64 b75_), []))], [], []⟩) [] [1] [] [] (by kernel_rfl) ?_
        refine Wc.exit ?_
        obtain rfl := Option.some.inj h76
        exact ⟨_, rfl, rfl⟩
  · rintro st ⟨b76_, rfl, rfl⟩
    refine Wc.seq ?_
    refine Wc.region [] [] [6] [] [] ⟨[(6, (.v (.int .i64 b76_), []))], [], []⟩ _ (by kernel_rfl) .nil ?_
    refine Wc.ret ?_
    obtain rfl := Option.some.inj h
    exact ⟨.inl rfl, by kernel_rfl, by kernel_rfl⟩

/-- impl.fileName -/
def pimpl_fileName (k : Nat) (d71_ : ByteArray) : Option Bool :=
  (pimpl_within k (d71_.size : Int) 1 8).bind fun e72_ =>
  if e72_ = true then
    (pimpl_run_on2_pimpl_lower k d71_ 0).bind fun b78_ =>
    some (b78_ == (d71_.size : Int))
  else
    some false
theorem cimpl_fileName {k : Nat} {d71_ : ByteArray} {r : Bool} (h : pimpl_fileName k d71_ = some r) : FnO Try.prog 42 [.v (.str d71_) []] (.v (.bool r) []) [] := by
  refine FnO.of Try.func42 (rfl : Try.f42.body = some _) (Nat.le_of_ble_eq_true (by kernel_rfl)) (Nat.le_of_ble_eq_true (by kernel_rfl)) ?_
  intro w0 X0 Fin pv0 pb gt
  unfold pimpl_fileName at h
  refine Wc.seq ?_
  refine Wc.region [] [] [0] [] [] ⟨[(0, (.v (.str d71_), []))], [], []⟩ _ (by kernel_rfl) .nil ?_
  refine Wc.seq ?_
  obtain ⟨e72_, h74, h⟩ := obind h
  rcases oif h with ⟨h75, h⟩ | ⟨h75, h⟩
  · obtain ⟨b78_, h81, h⟩ := obind h
    refine Wc.region [{}, {}, { r := some (.v (.bool e72_) []) }, { re := some (.bool true) }, {}, { r := some (.v (.int .i64 b78_) []) }] [] [2] [] [] ⟨[(2, (.v (.bool (b78_ == (d71_.size : Int))), []))], [], []⟩ _ (by kernel_rfl) (.cons (cimpl_within h74) (.cons (congrArg AV.bool h75) (.cons (cimpl_run_on2_pimpl_lower h81) .nil))) ?_
    refine Wc.ret ?_
    obtain rfl := Option.some.inj h
    exact ⟨.inl rfl, by kernel_rfl, by kernel_rfl⟩
  · refine Wc.region [{}, {}, { r := some (.v (.bool e72_) []) }, { re := some (.bool false) }] [] [2] [] [] ⟨[(2, (.v (.bool false), []))], [], []⟩ _ (by kernel_rfl) (.cons (cimpl_within h74) (.cons (congrArg AV.bool h75) .nil)) ?_
    refine Wc.ret ?_
    obtain rfl := Option.some.inj h
    exact ⟨.inl rfl, by kernel_rfl, by kernel_rfl⟩

def pimpl_FilesOk_L1 (k : Nat) (c74_ : List GFile) : Nat → Int → Option (Out Bool Unit)
  | 0, _ => none
  | m + 1, b75_ =>
    if (decide (b75_ < (c74_.length : Int))) = true then
      (at' c74_ b75_).bind fun a76_ =>
      (pimpl_fileName k a76_.gName).bind fun e77_ =>
      if (!e77_) = true then
        some (.ret false)
      else
        if (decide ((a76_.gText.size : Int) > 3000)) = true then
          some (.ret false)
        else
          if (decide (b75_ > 0)) = true then
            (at' c74_ (wr.i64 (b75_ - 1))).bind fun a78_ =>
            if (!(sLt a78_.gName a76_.gName)) = true then
              some (.ret false)
            else
              pimpl_FilesOk_L1 k c74_ m (wr.i64 (b75_ + 1))
          else
            pimpl_FilesOk_L1 k c74_ m (wr.i64 (b75_ + 1))
    else
      some (.done ())
/-- impl.FilesOk -/
def pimpl_FilesOk (k : Nat) (c74_ : List GFile) : Option Bool :=
  (pimpl_FilesOk_L1 k c74_ k 0).bind fun out1 => match out1 with
  | .ret r => some r
  | .done () =>
    some (decide ((c74_.length : Int) ≤ 6))
theorem cimpl_FilesOk {k : Nat} {c74_ : List GFile} {r : Bool} (h : pimpl_FilesOk k c74_ = some r) : FnO Try.prog 22 [.v (.sl (List.map GFile.c c74_)) []] (.v (.bool r) []) [] := by
  refine FnO.of Try.func22 (rfl : Try.f22.body = some _) (Nat.le_of_ble_eq_true (by kernel_rfl)) (Nat.le_of_ble_eq_true (by kernel_rfl)) ?_
  intro w0 X0 Fin pv0 pb gt
  unfold pimpl_FilesOk at h
  refine Wc.seq ?_
  refine Wc.region [] [] [0] [] [] ⟨[(0, (.v (.sl (List.map GFile.c c74_)), []))], [], []⟩ _ (by kernel_rfl) .nil ?_
  refine Wc.seq ?_
  refine Wc.seq ?_
  refine Wc.region [{}, { v := some (.int .i64 (c74_.length : Int)) }] [] [0, 5, 6, 7] [] [] ⟨[(0, (.v (.sl (List.map GFile.c c74_)), [])), (5, (.v (.sl (List.map GFile.c c74_)), [])), (6, (.v (.int .i64 (c74_.length : Int)), [])), (7, (.v (.int .i64 0), []))], [], []⟩ _ (by kernel_rfl) (.cons (len_obl GFile.c c74_) .nil) ?_
  obtain ⟨out1, h77, h⟩ := obind h
  refine Wc.lastJ (fun st => out1 = .done () ∧ st = ⟨[(0, (.v (.sl (List.map GFile.c c74_)), []))], [], []⟩) ?_ ?_
  · refine Wc.block ?_
    refine Wc.loop (fun m st => ∃ (b75_ : Int), st = ⟨[(0, (.v (.sl (List.map GFile.c c74_)), [])), (5, (.v (.sl (List.map GFile.c c74_)), [])), (6, (.v (.int .i64 (c74_.length : Int)), [])), (7, (.v (.int .i64 b75_), []))], [], []⟩ ∧ pimpl_FilesOk_L1 k c74_ m b75_ = some out1) ?_ k ⟨_, rfl, h77⟩
    rintro m st ⟨b75_, rfl, h77⟩
    cases m with
    | zero => exact (onone h77).elim
    | succ m =>
      refine Wc.seq ?_
      refine Wc.region [] [] [0, 5, 6, 7, 8] [] [] ⟨[(0, (.v (.sl (List.map GFile.c c74_)), [])), (5, (.v (.sl (List.map GFile.c c74_)), [])), (6, (.v (.int .i64 (c74_.length : Int)), [])), (7, (.v (.int .i64 b75_), [])), (8, (.v (.bool (decide (b75_ < (c74_.length : Int)))), []))], [], []⟩ _ (by kernel_rfl) .nil ?_
      refine Wc.seq ?_
      rcases oif h77 with ⟨h78, h77⟩ | ⟨h78, h77⟩
      · refine Wc.condT h78 (by kernel_rfl) ?_
        refine Wc.fix (st' := ⟨[(0, (.v (.sl (List.map GFile.c c74_)), [])), (5, (.v (.sl (List.map GFile.c c74_)), [])), (6, (.v (.int .i64 (c74_.length : Int)), [])), (7, (.v (.int .i64 b75_), []))], [], []⟩) [] [0, 5, 6, 7] [] [] (by kernel_rfl) ?_
        refine Wc.skip ?_
        refine Wc.seq ?_
        refine Wc.block ?_
        refine Wc.seq ?_
        obtain ⟨a76_, h79, h77⟩ := obind h77
        refine Wc.region [{}, { v := some (.vptr [.str a76_.gName, .str a76_.gText]) }] [] [0, 3, 4, 5, 6, 7] [4] [] ⟨[(0, (.v (.sl (List.map GFile.c c74_)), [])), (3, (.v (.int .i64 b75_), [])), (4, (.ptr 4 0, [])), (5, (.v (.sl (List.map GFile.c c74_)), [])), (6, (.v (.int .i64 (c74_.length : Int)), [])), (7, (.v (.int .i64 b75_), []))], [(4, .cells [.str a76_.gName, .str a76_.gText] [])], []⟩ _ (by kernel_rfl) (.cons (at_obl (c := GFile.c) (GFile.c_eq a76_) GFile.c_len h79) (.cons (len_ok 2 [.str a76_.gName, .str a76_.gText]) .nil)) ?_
        refine Wc.seq ?_
        obtain ⟨e77_, h80, h77⟩ := obind h77
        rcases oif h77 with ⟨h81, h77⟩ | ⟨h81, h77⟩
        · refine Wc.draw hmix [{}, {}, { r := some (.v (.bool e77_) []) }, {}, { re := some (.bool true) }] [] [0, 5, 6, 7, 36] [] [] ⟨[(0, (.v (.sl (List.map GFile.c c74_)), [])), (5, (.v (.sl (List.map GFile.c c74_)), [])), (6, (.v (.int .i64 (c74_.length : Int)), [])), (7, (.v (.int .i64 b75_), [])), (36, (.v (.bool true), []))], [], []⟩ _ (by kernel_rfl) (fun X => by kernel_rfl) (.cons (cimpl_fileName h80) (.cons (congrArg AV.bool h81) .nil)) ?_
          refine Wc.condT rfl (by kernel_rfl) ?_
          refine Wc.seq ?_
          refine Wc.region [] [] [2] [] [] ⟨[(2, (.v (.bool false), []))], [], []⟩ _ (by kernel_rfl) .nil ?_
          refine Wc.ret ?_
          obtain rfl := Option.some.inj h77
          obtain rfl := Option.some.inj h
          exact ⟨.inl rfl, by kernel_rfl, by kernel_rfl⟩
        · rcases oif h77 with ⟨h82, h77⟩ | ⟨h82, h77⟩
          · refine Wc.draw hmix [{}, {}, { r := some (.v (.bool e77_) []) }, {}, { re := some (.bool false) }, {}, {}, {}, {}, {}, { re := some (.bool true) }] [] [0, 5, 6, 7, 36] [] [] ⟨[(0, (.v (.sl (List.map GFile.c c74_)), [])), (5, (.v (.sl (List.map GFile.c c74_)), [])), (6, (.v (.int .i64 (c74_.length : Int)), [])), (7, (.v (.int .i64 b75_), [])), (36, (.v (.bool true), []))], [], []⟩ _ (by kernel_rfl) (fun X => by kernel_rfl) (.cons (cimpl_fileName h80) (.cons (congrArg AV.bool h81) (.cons (congrArg AV.bool h82) .nil))) ?_
            refine Wc.condT rfl (by kernel_rfl) ?_
            refine Wc.seq ?_
            refine Wc.region [] [] [2] [] [] ⟨[(2, (.v (.bool false), []))], [], []⟩ _ (by kernel_rfl) .nil ?_
            refine Wc.ret ?_
            obtain rfl := Option.some.inj h77
            obtain rfl := Option.some.inj h
            exact ⟨.inl rfl, by kernel_rfl, by kernel_rfl⟩
          · rcases oif h77 with ⟨h83, h77⟩ | ⟨h83, h77⟩
            · obtain ⟨a78_, h84, h77⟩ := obind h77
              refine Wc.draw hmix [{}, {}, { r := some (.v (.bool e77_) []) }, {}, { re := some (.bool false) }, {}, {}, {}, {}, {}, { re := some (.bool false) }, {}, {}, { re := some (.bool true) }, {}, {}, {}, { v := some (.vptr [.str a78_.gName, .str a78_.gText]) }] [] [0, 5, 6, 7, 36] [] [] ⟨[(0, (.v (.sl (List.map GFile.c c74_)), [])), (5, (.v (.sl (List.map GFile.c c74_)), [])), (6, (.v (.int .i64 (c74_.length : Int)), [])), (7, (.v (.int .i64 b75_), [])), (36, (.v (.bool (!(sLt a78_.gName a76_.gName))), []))], [], []⟩ _ (by kernel_rfl) (fun X => by kernel_rfl) (.cons (cimpl_fileName h80) (.cons (congrArg AV.bool h81) (.cons (congrArg AV.bool h82) (.cons (congrArg AV.bool h83) (.cons (at_obl (c := GFile.c) (GFile.c_eq a78_) GFile.c_len h84) (.cons (len_ok 1 [.str a78_.gName, .str a78_.gText]) .nil)))))) ?_
              rcases oif h77 with ⟨h85, h77⟩ | ⟨h85, h77⟩
              · refine Wc.condT h85 (by kernel_rfl) ?_
                refine Wc.seq ?_
                refine Wc.region [] [] [2] [] [] ⟨[(2, (.v (.bool false), []))], [], []⟩ _ (by kernel_rfl) .nil ?_
                refine Wc.ret ?_
                obtain rfl := Option.some.inj h77
                obtain rfl := Option.some.inj h
                exact ⟨.inl rfl, by kernel_rfl, by kernel_rfl⟩
              · refine Wc.condF h85 (by kernel_rfl) ?_
                refine Wc.fix (st' := ⟨[(0, (.v (.sl (List.map GFile.c c74_)), [])), (5, (.v (.sl (List.map GFile.c c74_)), [])), (6, (.v (.int .i64 (c74_.length : Int)), [])), (7, (.v (.int .i64 b75_), []))], [], []⟩) [] [0, 5, 6, 7] [] [] (by kernel_rfl) ?_
                refine Wc.skip ?_
                refine Wc.region [] [] [0, 5, 6, 7] [] [] ⟨[(0, (.v (.sl (List.map GFile.c c74_)), [])), (5, (.v (.sl (List.map GFile.c c74_)), [])), (6, (.v (.int .i64 (c74_.length : Int)), [])), (7, (.v (.int .i64 (wr.i64 (b75_ + 1))), []))], [], []⟩ _ (by kernel_rfl) .nil ?_
                exact ⟨_, Nat.lt_succ_self _, _, rfl, h77⟩
            · refine Wc.draw hmix [{}, {}, { r := some (.v (.bool e77_) []) }, {}, { re := some (.bool false) }, {}, {}, {}, {}, {}, { re := some (.bool false) }, {}, {}, { re := some (.bool false) }] [] [0, 5, 6, 7, 36] [] [] ⟨[(0, (.v (.sl (List.map GFile.c c74_)), [])), (5, (.v (.sl (List.map GFile.c c74_)), [])), (6, (.v (.int .i64 (c74_.length : Int)), [])), (7, (.v (.int .i64 b75_), [])), (36, (.v (.bool false), []))], [], []⟩ _ (by kernel_rfl) (fun X => by kernel_rfl) (.cons (cimpl_fileName h80) (.cons (congrArg AV.bool h81) (.cons (congrArg AV.bool h82) (.cons (congrArg AV.bool h83) .nil)))) ?_
              refine Wc.condF rfl (by kernel_rfl) ?_
              refine Wc.fix (st' := ⟨[(0, (.v (.sl (List.map GFile.c c74_)), [])), (5, (.v (.sl (List.map GFile.c c74_)), [])), (6, (.v (.int .i64 (c74_.length : Int)), [])), (7, (.v (.int .i64 b75_), []))], [], []⟩) [] [0, 5, 6, 7] [] [] (by kernel_rfl) ?_
              refine Wc.skip ?_
              refine Wc.region [] [] [0, 5, 6, 7] [] [] ⟨[(0, (.v (.sl (List.map GFile.c c74_)), [])), (5, (.v (.sl (List.map GFile.c c74_)), [])), (6, (.v (.int .i64 (c74_.length : Int)), [])), (7, (.v (.int .i64 (wr.i64 (b75_ + 1))), []))], [], []⟩ _ (by kernel_rfl) .nil ?_
              exact ⟨_, Nat.lt_succ_self _, _, rfl, h77⟩
      · refine Wc.condF h78 (by kernel_rfl) ?_
        refine Wc.fix (st' := ⟨[(0, (.v (.sl (List.map GFile.c c74_)), []))], [], []⟩) [] [0] [] [] (by kernel_rfl) ?_
        refine Wc.exit ?_
        obtain rfl := Option.some.inj h77
        exact ⟨rfl, rfl⟩
  · rintro st ⟨rfl, rfl⟩
    refine Wc.seq ?_
    refine Wc.region [{}, { v := some (.int .i64 (c74_.length : Int)) }] [] [2] [] [] ⟨[(2, (.v (.bool (decide ((c74_.length : Int) ≤ 6))), []))], [], []⟩ _ (by kernel_rfl) (.cons (len_obl GFile.c c74_) .nil) ?_
    refine Wc.ret ?_
    obtain rfl := Option.some.inj h
    exact ⟨.inl rfl, by kernel_rfl, by kernel_rfl⟩

def pslices_Insert___impl_File_impl_File_ (k : Nat) (l : List GFile) (i : Int) (v : List GFile) : Option (List GFile) :=
  if (0 ≤ i ∧ i.toNat ≤ l.length ∧ l.length + 1 ≤ 1073741824) ∧ v.length = 1 then some (l.take i.toNat ++ (v ++ l.drop i.toNat)) else none
theorem cslices_Insert___impl_File_impl_File_ {k : Nat} {l : List GFile} {i : Int} {v r : List GFile} (h : pslices_Insert___impl_File_impl_File_ k l i v = some r) : FnO Try.prog 23 [.v .slx [(0, .ex 47 false (List.map GFile.c l))], .v (.int .i64 i) [], .v .slx [(0, .ex 47 false (List.map GFile.c v))]] (.v (.slx) [(0, .ex 47 false (List.map GFile.c r))]) [] := by
  obtain ⟨⟨⟨h0, h1, h2⟩, h3⟩, h⟩ := oguard h
  obtain rfl := Option.some.inj h
  match v, h3 with
  | [x], _ =>
    obtain ⟨n, rfl⟩ := Int.eq_ofNat_of_zero_le h0
    have q := insert_O (dp := false) ins_roads (by kernel_rfl) zF_cells (by decide) (rows := l.map GFile.c) (x := x.c) (i := n) (by simpa using h1) (by simpa using h2) (fun c hc => by
      obtain ⟨y, _, rfl⟩ := List.mem_map.1 hc
      rfl) rfl
    have e : insF (l.map GFile.c) n x.c = List.map GFile.c (l.take (n : Int).toNat ++ ([x] ++ l.drop (n : Int).toNat)) := by unfold insF; simp
    rw [e] at q
    exact q

def pimpl_Stored_L1 (k : Nat) (c92_ : List GFile) (d93_ : ByteArray) : Nat → Int → Option (Out ((List GFile) × Bool) Int)
  | 0, _ => none
  | m + 1, b96_ =>
    if (decide (b96_ < (c92_.length : Int))) = true then
      (at' c92_ b96_).bind fun a98_ =>
      if (sLt a98_.gName d93_) = true then
        pimpl_Stored_L1 k c92_ d93_ m (wr.i64 (b96_ + 1))
      else
        some (.done b96_)
    else
      some (.done b96_)
def pimpl_Stored_J2 (k : Nat) (c92_ : List GFile) (c99_ : List GFile) : Option ((List GFile) × Bool) :=
  (pimpl_FilesOk k c99_).bind fun e100_ =>
  if (!e100_) = true then
    if ([] : List GFile).length + c92_.length ≤ 1073741824 then
      some (c92_, false)
    else none
  else
    some (c99_, true)
def pimpl_Stored_J3 (k : Nat) (c92_ : List GFile) (b97_ : Int) (d94_ : ByteArray) (d93_ : ByteArray) (e101_ : Bool) : Option ((List GFile) × Bool) :=
  if e101_ = true then
    (at' c92_ b97_).bind fun a102_ =>
    pimpl_Stored_J2 k c92_ (c92_.set ((b97_).toNat) (GFile.mk a102_.gName d94_))
  else
    (pslices_Insert___impl_File_impl_File_ k c92_ b97_ [GFile.mk d93_ d94_]).bind fun f103_ =>
    pimpl_Stored_J2 k c92_ f103_
/-- impl.Stored -/
def pimpl_Stored (k : Nat) (c92_ : List GFile) (d93_ : ByteArray) (d94_ : ByteArray) : Option ((List GFile) × Bool) :=
  if ([] : List GFile).length + c92_.length ≤ 1073741824 then
    (pimpl_FilesOk k c92_).bind fun e95_ =>
    if (!e95_) = true then
      some (c92_, false)
    else
      (pimpl_Stored_L1 k c92_ d93_ k 0).bind fun out1 => match out1 with
      | .ret r => some r
      | .done b97_ =>
        if (decide (b97_ < (c92_.length : Int))) = true then
          (at' c92_ b97_).bind fun a104_ =>
          pimpl_Stored_J3 k c92_ b97_ d94_ d93_ (sEq a104_.gName d93_)
        else
          pimpl_Stored_J3 k c92_ b97_ d94_ d93_ false
  else none
set_option maxHeartbeats 4000000 in
theorem cimpl_Stored {k : Nat} {c92_ : List GFile} {d93_ : ByteArray} {d94_ : ByteArray} {r : (List GFile) × Bool} (h : pimpl_Stored k c92_ d93_ d94_ = some r) : FnO Try.prog 8 [.v (.sl (List.map GFile.c c92_)) [], .v (.str d93_) [], .v (.str d94_) []] (.v (.tup [.sl (List.map GFile.c r.1), .bool r.2]) []) [] := by
  refine FnO.of Try.func8 (rfl : Try.f8.body = some _) (Nat.le_of_ble_eq_true (by kernel_rfl)) (Nat.le_of_ble_eq_true (by kernel_rfl)) ?_
  intro w0 X0 Fin pv0 pb gt
  unfold pimpl_Stored at h
  refine Wc.seq ?_
  refine Wc.region [] [] [0, 1, 2] [] [] ⟨[(0, (.v (.sl (List.map GFile.c c92_)), [])), (1, (.v (.str d93_), [])), (2, (.v (.str d94_), []))], [], []⟩ _ (by kernel_rfl) .nil ?_
  refine Wc.seq ?_
  obtain ⟨h101, h⟩ := oguard h
  refine Wc.region [{}, { c := some (List.map GFile.c c92_), md := 1 }, { tk := [11] }] [] [0, 1, 2, 8] [] [] ⟨[(0, (.v (.sl (List.map GFile.c c92_)), [])), (1, (.v (.str d93_), [])), (2, (.v (.str d94_), [])), (8, (.v (.slx), [(0, .ex 47 false (List.map GFile.c c92_))]))], [], []⟩ _ (by kernel_rfl) (.cons (app_re0 GFile.c c92_) (.cons (app_leaf (c := GFile.c) (ys := c92_) GFile.c_leaf) (.cons (app_obl2 (c := GFile.c) (xs := []) (ys := c92_) GFile.c_len h101) .nil))) ?_
  refine Wc.seq ?_
  refine Wc.seq ?_
  obtain ⟨e95_, h102, h⟩ := obind h
  refine Wc.region [{}, { r := some (.v (.bool e95_) []) }] [] [0, 1, 2, 8, 14] [] [] ⟨[(0, (.v (.sl (List.map GFile.c c92_)), [])), (1, (.v (.str d93_), [])), (2, (.v (.str d94_), [])), (8, (.v (.slx), [(0, .ex 47 false (List.map GFile.c c92_))])), (14, (.v (.bool (!e95_)), []))], [], []⟩ _ (by kernel_rfl) (.cons (cimpl_FilesOk h102) .nil) ?_
  rcases oif h with ⟨h103, h⟩ | ⟨h103, h⟩
  · refine Wc.condT h103 (by kernel_rfl) ?_
    refine Wc.seq ?_
    refine Wc.region [{ tk := [8] }, { tk := [15] }] [] [6, 7] [] [] ⟨[(6, (.v (.slx), [(0, .ex 47 false (List.map GFile.c c92_))])), (7, (.v (.bool false), []))], [], []⟩ _ (by kernel_rfl) .nil ?_
    refine Wc.fix (st' := ⟨[(6, (.v (.sl (List.map GFile.c c92_)), [])), (7, (.v (.bool false), []))], [], []⟩) [.sh (.t 6 0)] [6, 7] [] [] (by kernel_rfl) ?_
    refine Wc.ret ?_
    obtain rfl := Option.some.inj h
    exact ⟨.inl rfl, by kernel_rfl, by kernel_rfl⟩
  · refine Wc.condF h103 (by kernel_rfl) ?_
    refine Wc.fix (st' := ⟨[(0, (.v (.sl (List.map GFile.c c92_)), [])), (1, (.v (.str d93_), [])), (2, (.v (.str d94_), [])), (8, (.v (.slx), [(0, .ex 47 false (List.map GFile.c c92_))]))], [], []⟩) [] [0, 1, 2, 8] [] [] (by kernel_rfl) ?_
    refine Wc.skip ?_
    refine Wc.seq ?_
    refine Wc.region [] [] [0, 1, 2, 8, 9] [] [] ⟨[(0, (.v (.sl (List.map GFile.c c92_)), [])), (1, (.v (.str d93_), [])), (2, (.v (.str d94_), [])), (8, (.v (.slx), [(0, .ex 47 false (List.map GFile.c c92_))])), (9, (.v (.int .i64 0), []))], [], []⟩ _ (by kernel_rfl) .nil ?_
    obtain ⟨out1, h104, h⟩ := obind h
    refine Wc.seqJ (fun st => ∃ (b97_ : Int), out1 = .done b97_ ∧ st = ⟨[(0, (.v (.sl (List.map GFile.c c92_)), [])), (1, (.v (.str d93_), [])), (2, (.v (.str d94_), [])), (8, (.v (.slx), [(0, .ex 47 false (List.map GFile.c c92_))])), (9, (.v (.int .i64 b97_), []))], [], []⟩) ?_ ?_
    · refine Wc.block ?_
      refine Wc.loop (fun m st => ∃ (b96_ : Int), st = ⟨[(0, (.v (.sl (List.map GFile.c c92_)), [])), (1, (.v (.str d93_), [])), (2, (.v (.str d94_), [])), (8, (.v (.slx), [(0, .ex 47 false (List.map GFile.c c92_))])), (9, (.v (.int .i64 b96_), []))], [], []⟩ ∧ pimpl_Stored_L1 k c92_ d93_ m b96_ = some out1) ?_ k ⟨_, rfl, h104⟩
      rintro m st ⟨b96_, rfl, h104⟩
      cases m with
      | zero => exact (onone h104).elim
      | succ m =>
        refine Wc.seq ?_
        refine Wc.seq ?_
        rcases oif h104 with ⟨h105, h104⟩ | ⟨h105, h104⟩
        · obtain ⟨a98_, h106, h104⟩ := obind h104
          refine Wc.region [{}, {}, { v := some (.int .i64 (c92_.length : Int)) }, {}, { re := some (.bool true) }, {}, {}, {}, {}, { v := some (.str a98_.gName) }] [] [0, 1, 2, 8, 9, 28] [] [] ⟨[(0, (.v (.sl (List.map GFile.c c92_)), [])), (1, (.v (.str d93_), [])), (2, (.v (.str d94_), [])), (8, (.v (.slx), [(0, .ex 47 false (List.map GFile.c c92_))])), (9, (.v (.int .i64 b96_), [])), (28, (.v (.bool (sLt a98_.gName d93_)), []))], [], []⟩ _ (by kernel_rfl) (.cons (len_obl GFile.c c92_) (.cons (congrArg AV.bool h105) (.cons (ix_obl (c := GFile.c) GFile.c_len h106) (.cons (el_obl (sz := 2) (off := 0) (s := 1) (ag := false) (v := .str a98_.gName) (c := GFile.c) (GFile.c_eq a98_) (at'_spec h106).2 rfl (Nat.le_of_ble_eq_true rfl) rfl) .nil)))) ?_
          rcases oif h104 with ⟨h107, h104⟩ | ⟨h107, h104⟩
          · refine Wc.condT h107 (by kernel_rfl) ?_
            refine Wc.fix (st' := ⟨[(0, (.v (.sl (List.map GFile.c c92_)), [])), (1, (.v (.str d93_), [])), (2, (.v (.str d94_), [])), (8, (.v (.slx), [(0, .ex 47 false (List.map GFile.c c92_))])), (9, (.v (.int .i64 b96_), []))], [], []⟩) [] [0, 1, 2, 8, 9] [] [] (by kernel_rfl) ?_
            refine Wc.skip ?_
            refine Wc.block ?_
            refine Wc.region [] [] [0, 1, 2, 8, 9] [] [] ⟨[(0, (.v (.sl (List.map GFile.c c92_)), [])), (1, (.v (.str d93_), [])), (2, (.v (.str d94_), [])), (8, (.v (.slx), [(0, .ex 47 false (List.map GFile.c c92_))])), (9, (.v (.int .i64 (wr.i64 (b96_ + 1))), []))], [], []⟩ _ (by kernel_rfl) .nil ?_
            exact ⟨_, Nat.lt_succ_self _, _, rfl, h104⟩
          · refine Wc.condF h107 (by kernel_rfl) ?_
            refine Wc.fix (st' := ⟨[(0, (.v (.sl (List.map GFile.c c92_)), [])), (1, (.v (.str d93_), [])), (2, (.v (.str d94_), [])), (8, (.v (.slx), [(0, .ex 47 false (List.map GFile.c c92_))])), (9, (.v (.int .i64 b96_), []))], [], []⟩) [] [0, 1, 2, 8, 9] [] [] (by kernel_rfl) ?_
            refine Wc.exit ?_
            obtain rfl := Option.some.inj h104
            exact ⟨_, rfl, rfl⟩
        · refine Wc.region [{}, {}, { v := some (.int .i64 (c92_.length : Int)) }, {}, { re := some (.bool false) }] [] [0, 1, 2, 8, 9, 28] [] [] ⟨[(0, (.v (.sl (List.map GFile.c c92_)), [])), (1, (.v (.str d93_), [])), (2, (.v (.str d94_), [])), (8, (.v (.slx), [(0, .ex 47 false (List.map GFile.c c92_))])), (9, (.v (.int .i64 b96_), [])), (28, (.v (.bool false), []))], [], []⟩ _ (by kernel_rfl) (.cons (len_obl GFile.c c92_) (.cons (congrArg AV.bool h105) .nil)) ?_
          refine Wc.condF rfl (by kernel_rfl) ?_
          refine Wc.fix (st' := ⟨[(0, (.v (.sl (List.map GFile.c c92_)), [])), (1, (.v (.str d93_), [])), (2, (.v (.str d94_), [])), (8, (.v (.slx), [(0, .ex 47 false (List.map GFile.c c92_))])), (9, (.v (.int .i64 b96_), []))], [], []⟩) [] [0, 1, 2, 8, 9] [] [] (by kernel_rfl) ?_
          refine Wc.exit ?_
          obtain rfl := Option.some.inj h104
          exact ⟨_, rfl, rfl⟩
    · rintro st ⟨b97_, rfl, rfl⟩
      refine Wc.seqJ (fun st => ∃ (c99_ : List GFile), st = ⟨[(0, (.v (.sl (List.map GFile.c c92_)), [])), (8, (.v (.slx), [(0, .ex 47 false (List.map GFile.c c99_))]))], [], []⟩ ∧ pimpl_Stored_J2 k c92_ c99_ = some r) ?_ ?_
      · refine Wc.seqJ (fun st => ∃ (e101_ : Bool), st = ⟨[(0, (.v (.sl (List.map GFile.c c92_)), [])), (1, (.v (.str d93_), [])), (2, (.v (.str d94_), [])), (8, (.v (.slx), [(0, .ex 47 false (List.map GFile.c c92_))])), (9, (.v (.int .i64 b97_), [])), (43, (.v (.bool e101_), []))], [], []⟩ ∧ pimpl_Stored_J3 k c92_ b97_ d94_ d93_ e101_ = some r) ?_ ?_
        · rcases oif h with ⟨h114, h⟩ | ⟨h114, h⟩
          · obtain ⟨a104_, h115, h⟩ := obind h
            refine Wc.region [{}, {}, { v := some (.int .i64 (c92_.length : Int)) }, {}, { re := some (.bool true) }, {}, {}, {}, {}, { v := some (.str a104_.gName) }] [] [0, 1, 2, 8, 9, 43] [] [] ⟨[(0, (.v (.sl (List.map GFile.c c92_)), [])), (1, (.v (.str d93_), [])), (2, (.v (.str d94_), [])), (8, (.v (.slx), [(0, .ex 47 false (List.map GFile.c c92_))])), (9, (.v (.int .i64 b97_), [])), (43, (.v (.bool (sEq a104_.gName d93_)), []))], [], []⟩ _ (by kernel_rfl) (.cons (len_obl GFile.c c92_) (.cons (congrArg AV.bool h114) (.cons (ix_obl (c := GFile.c) GFile.c_len h115) (.cons (el_obl (sz := 2) (off := 0) (s := 1) (ag := false) (v := .str a104_.gName) (c := GFile.c) (GFile.c_eq a104_) (at'_spec h115).2 rfl (Nat.le_of_ble_eq_true rfl) rfl) .nil)))) ?_
            exact ⟨_, rfl, h⟩
          · refine Wc.region [{}, {}, { v := some (.int .i64 (c92_.length : Int)) }, {}, { re := some (.bool false) }] [] [0, 1, 2, 8, 9, 43] [] [] ⟨[(0, (.v (.sl (List.map GFile.c c92_)), [])), (1, (.v (.str d93_), [])), (2, (.v (.str d94_), [])), (8, (.v (.slx), [(0, .ex 47 false (List.map GFile.c c92_))])), (9, (.v (.int .i64 b97_), [])), (43, (.v (.bool false), []))], [], []⟩ _ (by kernel_rfl) (.cons (len_obl GFile.c c92_) (.cons (congrArg AV.bool h114) .nil)) ?_
            exact ⟨_, rfl, h⟩
        · rintro st ⟨e101_, rfl, h⟩
          rcases oif h with ⟨h111, h⟩ | ⟨h111, h⟩
          · refine Wc.condT h111 (by kernel_rfl) ?_
            obtain ⟨a102_, h112, h⟩ := obind h
            refine Wc.region [{}, {}, {}, {}, {}, { c := some (List.map GFile.c (c92_.set ((b97_).toNat) (GFile.mk a102_.gName d94_))) }] [] [0, 8] [] [] ⟨[(0, (.v (.sl (List.map GFile.c c92_)), [])), (8, (.v (.slx), [(0, .ex 47 false (List.map GFile.c (c92_.set ((b97_).toNat) (GFile.mk a102_.gName d94_))))]))], [], []⟩ _ (by kernel_rfl) (.cons (ix_obl (c := GFile.c) GFile.c_len h112) (.cons (mod_obl (off := 1) (new := [.str d94_]) (c := GFile.c) (GFile.c_eq a102_) (GFile.c_eq (GFile.mk a102_.gName d94_)) (at'_spec h112).2 rfl) (.cons (st_obl (sz := 2) (off := 1) (s := 1) (c := GFile.c) (GFile.c_eq a102_) (at'_spec h112).2 rfl (Nat.le_of_ble_eq_true rfl)) .nil))) ?_
            exact ⟨_, rfl, h⟩
          · refine Wc.condF h111 (by kernel_rfl) ?_
            obtain ⟨f103_, h113, h⟩ := obind h
            refine Wc.region [{ tk := [8] }, {}, {}, {}, {}, { c := some (List.map GFile.c [GFile.mk d93_ d94_]), md := 1 }, { tk := [49, 54], r := some (.v (.slx) [(0, .ex 47 false (List.map GFile.c f103_))]) }, { tk := [55] }] [] [0, 8] [] [] ⟨[(0, (.v (.sl (List.map GFile.c c92_)), [])), (8, (.v (.slx), [(0, .ex 47 false (List.map GFile.c f103_))]))], [], []⟩ _ (by kernel_rfl) (.cons (cl_cons (c := GFile.c) (x := GFile.mk d93_ d94_) (GFile.c_eq (GFile.mk d93_ d94_)) (cl_nil GFile.c)) (.cons (cslices_Insert___impl_File_impl_File_ h113) .nil)) ?_
            exact ⟨_, rfl, h⟩
      · rintro st ⟨c99_, rfl, h⟩
        refine Wc.seq ?_
        refine Wc.seq ?_
        obtain ⟨e100_, h108, h⟩ := obind h
        refine Wc.region [{}, { r := some (.v (.bool e100_) []) }] [] [0, 8, 58] [] [] ⟨[(0, (.v (.sl (List.map GFile.c c92_)), [])), (8, (.v (.slx), [(0, .ex 47 false (List.map GFile.c c99_))])), (58, (.v (.bool (!e100_)), []))], [], []⟩ _ (by kernel_rfl) (.cons (cimpl_FilesOk h108) .nil) ?_
        rcases oif h with ⟨h109, h⟩ | ⟨h109, h⟩
        · refine Wc.condT h109 (by kernel_rfl) ?_
          refine Wc.seq ?_
          obtain ⟨h110, h⟩ := oguard h
          refine Wc.region [{}, { c := some (List.map GFile.c c92_) }, { tk := [60] }] [] [6, 7] [] [] ⟨[(6, (.v (.sl (List.map GFile.c c92_)), [(0, .app 47)])), (7, (.v (.bool false), []))], [], []⟩ _ (by kernel_rfl) (.cons (app_re0 GFile.c c92_) (.cons (app_leaf (c := GFile.c) (ys := c92_) GFile.c_leaf) (.cons (app_obl2 (c := GFile.c) (xs := []) (ys := c92_) GFile.c_len h110) .nil))) ?_
          refine Wc.fix (st' := ⟨[(6, (.v (.sl (List.map GFile.c c92_)), [])), (7, (.v (.bool false), []))], [], []⟩) [.un (.t 6 0)] [6, 7] [] [] (by kernel_rfl) ?_
          refine Wc.ret ?_
          obtain rfl := Option.some.inj h
          exact ⟨.inl rfl, by kernel_rfl, by kernel_rfl⟩
        · refine Wc.condF h109 (by kernel_rfl) ?_
          refine Wc.fix (st' := ⟨[(8, (.v (.slx), [(0, .ex 47 false (List.map GFile.c c99_))]))], [], []⟩) [] [8] [] [] (by kernel_rfl) ?_
          refine Wc.skip ?_
          refine Wc.seq ?_
          refine Wc.region [{ tk := [8] }, { tk := [61] }] [] [6, 7] [] [] ⟨[(6, (.v (.slx), [(0, .ex 47 false (List.map GFile.c c99_))])), (7, (.v (.bool true), []))], [], []⟩ _ (by kernel_rfl) .nil ?_
          refine Wc.fix (st' := ⟨[(6, (.v (.sl (List.map GFile.c c99_)), [])), (7, (.v (.bool true), []))], [], []⟩) [.sh (.t 6 0)] [6, 7] [] [] (by kernel_rfl) ?_
          refine Wc.ret ?_
          obtain rfl := Option.some.inj h
          exact ⟨.inl rfl, by kernel_rfl, by kernel_rfl⟩

/-- laws.eqFile -/
def plaws_eqFile (k : Nat) (a105_ : GFile) (a106_ : GFile) : Option Bool :=
  if (!(sEq a105_.gName a106_.gName)) = true then
    some false
  else
    if (!(sEq a105_.gText a106_.gText)) = true then
      some false
    else
      some true
theorem claws_eqFile {k : Nat} {a105_ : GFile} {a106_ : GFile} {r : Bool} (h : plaws_eqFile k a105_ a106_ = some r) : FnO Try.prog 24 [.v (.agg [.str a105_.gName, .str a105_.gText]) [], .v (.agg [.str a106_.gName, .str a106_.gText]) []] (.v (.bool r) []) [] := by
  refine FnO.of Try.func24 (rfl : Try.f24.body = some _) (Nat.le_of_ble_eq_true (by kernel_rfl)) (Nat.le_of_ble_eq_true (by kernel_rfl)) ?_
  intro w0 X0 Fin pv0 pb gt
  unfold plaws_eqFile at h
  refine Wc.seq ?_
  refine Wc.region [] [] [2, 3] [2, 3] [] ⟨[(2, (.ptr 2 0, [])), (3, (.ptr 3 0, []))], [(2, .cells [.str a105_.gName, .str a105_.gText] []), (3, .cells [.str a106_.gName, .str a106_.gText] [])], []⟩ _ (by kernel_rfl) .nil ?_
  refine Wc.seq ?_
  refine Wc.seq ?_
  refine Wc.region [] [] [2, 3, 9] [2, 3] [] ⟨[(2, (.ptr 2 0, [])), (3, (.ptr 3 0, [])), (9, (.v (.bool (!(sEq a105_.gName a106_.gName))), []))], [(2, .cells [.str a105_.gName, .str a105_.gText] []), (3, .cells [.str a106_.gName, .str a106_.gText] [])], []⟩ _ (by kernel_rfl) .nil ?_
  rcases oif h with ⟨h116, h⟩ | ⟨h116, h⟩
  · refine Wc.condT h116 (by kernel_rfl) ?_
    refine Wc.seq ?_
    refine Wc.region [] [] [4] [] [] ⟨[(4, (.v (.bool false), []))], [], []⟩ _ (by kernel_rfl) .nil ?_
    refine Wc.ret ?_
    obtain rfl := Option.some.inj h
    exact ⟨.inl rfl, by kernel_rfl, by kernel_rfl⟩
  · refine Wc.condF h116 (by kernel_rfl) ?_
    refine Wc.fix (st' := ⟨[(2, (.ptr 2 0, [])), (3, (.ptr 3 0, []))], [(2, .cells [.str a105_.gName, .str a105_.gText] []), (3, .cells [.str a106_.gName, .str a106_.gText] [])], []⟩) [] [2, 3] [2, 3] [] (by kernel_rfl) ?_
    refine Wc.skip ?_
    refine Wc.seq ?_
    refine Wc.seq ?_
    refine Wc.region [] [] [14] [] [] ⟨[(14, (.v (.bool (!(sEq a105_.gText a106_.gText))), []))], [], []⟩ _ (by kernel_rfl) .nil ?_
    rcases oif h with ⟨h117, h⟩ | ⟨h117, h⟩
    · refine Wc.condT h117 (by kernel_rfl) ?_
      refine Wc.seq ?_
      refine Wc.region [] [] [4] [] [] ⟨[(4, (.v (.bool false), []))], [], []⟩ _ (by kernel_rfl) .nil ?_
      refine Wc.ret ?_
      obtain rfl := Option.some.inj h
      exact ⟨.inl rfl, by kernel_rfl, by kernel_rfl⟩
    · refine Wc.condF h117 (by kernel_rfl) ?_
      refine Wc.fix (st' := ⟨[], [], []⟩) [] [] [] [] (by kernel_rfl) ?_
      refine Wc.skip ?_
      refine Wc.seq ?_
      refine Wc.region [] [] [4] [] [] ⟨[(4, (.v (.bool true), []))], [], []⟩ _ (by kernel_rfl) .nil ?_
      refine Wc.ret ?_
      obtain rfl := Option.some.inj h
      exact ⟨.inl rfl, by kernel_rfl, by kernel_rfl⟩

def plaws_eqFileS_L1 (k : Nat) (c107_ : List GFile) (c108_ : List GFile) : Nat → Int → Option (Out Bool Unit)
  | 0, _ => none
  | m + 1, b109_ =>
    if (decide (b109_ < (c107_.length : Int))) = true then
      (at' c107_ b109_).bind fun a110_ =>
      (at' c108_ b109_).bind fun a111_ =>
      (plaws_eqFile k a110_ a111_).bind fun e112_ =>
      if (!e112_) = true then
        some (.ret false)
      else
        plaws_eqFileS_L1 k c107_ c108_ m (wr.i64 (b109_ + 1))
    else
      some (.done ())
/-- laws.eqFileS -/
def plaws_eqFileS (k : Nat) (c107_ : List GFile) (c108_ : List GFile) : Option Bool :=
  if ((c107_.length : Int) != (c108_.length : Int)) = true then
    some false
  else
    (plaws_eqFileS_L1 k c107_ c108_ k 0).bind fun out1 => match out1 with
    | .ret r => some r
    | .done () =>
      some true
theorem claws_eqFileS {k : Nat} {c107_ : List GFile} {c108_ : List GFile} {r : Bool} (h : plaws_eqFileS k c107_ c108_ = some r) : FnO Try.prog 9 [.v (.sl (List.map GFile.c c107_)) [], .v (.sl (List.map GFile.c c108_)) []] (.v (.bool r) []) [] := by
  refine FnO.of Try.func9 (rfl : Try.f9.body = some _) (Nat.le_of_ble_eq_true (by kernel_rfl)) (Nat.le_of_ble_eq_true (by kernel_rfl)) ?_
  intro w0 X0 Fin pv0 pb gt
  unfold plaws_eqFileS at h
  refine Wc.seq ?_
  refine Wc.region [] [] [0, 1] [] [] ⟨[(0, (.v (.sl (List.map GFile.c c107_)), [])), (1, (.v (.sl (List.map GFile.c c108_)), []))], [], []⟩ _ (by kernel_rfl) .nil ?_
  refine Wc.seq ?_
  refine Wc.seq ?_
  refine Wc.region [{}, { v := some (.int .i64 (c107_.length : Int)) }, {}, { v := some (.int .i64 (c108_.length : Int)) }] [] [0, 1, 10] [] [] ⟨[(0, (.v (.sl (List.map GFile.c c107_)), [])), (1, (.v (.sl (List.map GFile.c c108_)), [])), (10, (.v (.bool ((c107_.length : Int) != (c108_.length : Int))), []))], [], []⟩ _ (by kernel_rfl) (.cons (len_obl GFile.c c107_) (.cons (len_obl GFile.c c108_) .nil)) ?_
  rcases oif h with ⟨h118, h⟩ | ⟨h118, h⟩
  · refine Wc.condT h118 (by kernel_rfl) ?_
    refine Wc.seq ?_
    refine Wc.region [] [] [4] [] [] ⟨[(4, (.v (.bool false), []))], [], []⟩ _ (by kernel_rfl) .nil ?_
    refine Wc.ret ?_
    obtain rfl := Option.some.inj h
    exact ⟨.inl rfl, by kernel_rfl, by kernel_rfl⟩
  · refine Wc.condF h118 (by kernel_rfl) ?_
    refine Wc.fix (st' := ⟨[(0, (.v (.sl (List.map GFile.c c107_)), [])), (1, (.v (.sl (List.map GFile.c c108_)), []))], [], []⟩) [] [0, 1] [] [] (by kernel_rfl) ?_
    refine Wc.skip ?_
    refine Wc.seq ?_
    refine Wc.seq ?_
    refine Wc.region [] [] [0, 1, 5] [] [] ⟨[(0, (.v (.sl (List.map GFile.c c107_)), [])), (1, (.v (.sl (List.map GFile.c c108_)), [])), (5, (.v (.int .i64 0), []))], [], []⟩ _ (by kernel_rfl) .nil ?_
    obtain ⟨out1, h119, h⟩ := obind h
    refine Wc.lastJ (fun st => out1 = .done () ∧ st = ⟨[], [], []⟩) ?_ ?_
    · refine Wc.block ?_
      refine Wc.loop (fun m st => ∃ (b109_ : Int), st = ⟨[(0, (.v (.sl (List.map GFile.c c107_)), [])), (1, (.v (.sl (List.map GFile.c c108_)), [])), (5, (.v (.int .i64 b109_), []))], [], []⟩ ∧ plaws_eqFileS_L1 k c107_ c108_ m b109_ = some out1) ?_ k ⟨_, rfl, h119⟩
      rintro m st ⟨b109_, rfl, h119⟩
      cases m with
      | zero => exact (onone h119).elim
      | succ m =>
        refine Wc.seq ?_
        refine Wc.seq ?_
        refine Wc.region [{}, {}, { v := some (.int .i64 (c107_.length : Int)) }] [] [0, 1, 5, 14] [] [] ⟨[(0, (.v (.sl (List.map GFile.c c107_)), [])), (1, (.v (.sl (List.map GFile.c c108_)), [])), (5, (.v (.int .i64 b109_), [])), (14, (.v (.bool (decide (b109_ < (c107_.length : Int)))), []))], [], []⟩ _ (by kernel_rfl) (.cons (len_obl GFile.c c107_) .nil) ?_
        rcases oif h119 with ⟨h120, h119⟩ | ⟨h120, h119⟩
        · refine Wc.condT h120 (by kernel_rfl) ?_
          refine Wc.fix (st' := ⟨[(0, (.v (.sl (List.map GFile.c c107_)), [])), (1, (.v (.sl (List.map GFile.c c108_)), [])), (5, (.v (.int .i64 b109_), []))], [], []⟩) [] [0, 1, 5] [] [] (by kernel_rfl) ?_
          refine Wc.skip ?_
          refine Wc.seq ?_
          refine Wc.block ?_
          refine Wc.seq ?_
          obtain ⟨a110_, h121, h119⟩ := obind h119
          obtain ⟨a111_, h122, h119⟩ := obind h119
          obtain ⟨e112_, h123, h119⟩ := obind h119
          refine Wc.draw hmix [{}, {}, { v := some (.vptr [.str a110_.gName, .str a110_.gText]) }, {}, {}, {}, { v := some (.vptr [.str a111_.gName, .str a111_.gText]) }, {}, { r := some (.v (.bool e112_) []) }] [] [0, 1, 5, 26] [] [] ⟨[(0, (.v (.sl (List.map GFile.c c107_)), [])), (1, (.v (.sl (List.map GFile.c c108_)), [])), (5, (.v (.int .i64 b109_), [])), (26, (.v (.bool (!e112_)), []))], [], []⟩ _ (by kernel_rfl) (fun X => by kernel_rfl) (.cons (at_obl (c := GFile.c) (GFile.c_eq a110_) GFile.c_len h121) (.cons (len_ok 2 [.str a110_.gName, .str a110_.gText]) (.cons (at_obl (c := GFile.c) (GFile.c_eq a111_) GFile.c_len h122) (.cons (len_ok 2 [.str a111_.gName, .str a111_.gText]) (.cons (claws_eqFile h123) .nil))))) ?_
          rcases oif h119 with ⟨h124, h119⟩ | ⟨h124, h119⟩
          · refine Wc.condT h124 (by kernel_rfl) ?_
            refine Wc.seq ?_
            refine Wc.region [] [] [4] [] [] ⟨[(4, (.v (.bool false), []))], [], []⟩ _ (by kernel_rfl) .nil ?_
            refine Wc.ret ?_
            obtain rfl := Option.some.inj h119
            obtain rfl := Option.some.inj h
            exact ⟨.inl rfl, by kernel_rfl, by kernel_rfl⟩
          · refine Wc.condF h124 (by kernel_rfl) ?_
            refine Wc.fix (st' := ⟨[(0, (.v (.sl (List.map GFile.c c107_)), [])), (1, (.v (.sl (List.map GFile.c c108_)), [])), (5, (.v (.int .i64 b109_), []))], [], []⟩) [] [0, 1, 5] [] [] (by kernel_rfl) ?_
            refine Wc.skip ?_
            refine Wc.region [] [] [0, 1, 5] [] [] ⟨[(0, (.v (.sl (List.map GFile.c c107_)), [])), (1, (.v (.sl (List.map GFile.c c108_)), [])), (5, (.v (.int .i64 (wr.i64 (b109_ + 1))), []))], [], []⟩ _ (by kernel_rfl) .nil ?_
            exact ⟨_, Nat.lt_succ_self _, _, rfl, h119⟩
        · refine Wc.condF h120 (by kernel_rfl) ?_
          refine Wc.fix (st' := ⟨[], [], []⟩) [] [] [] [] (by kernel_rfl) ?_
          refine Wc.exit ?_
          obtain rfl := Option.some.inj h119
          exact ⟨rfl, rfl⟩
    · rintro st ⟨rfl, rfl⟩
      refine Wc.seq ?_
      refine Wc.region [] [] [4] [] [] ⟨[(4, (.v (.bool true), []))], [], []⟩ _ (by kernel_rfl) .nil ?_
      refine Wc.ret ?_
      obtain rfl := Option.some.inj h
      exact ⟨.inl rfl, by kernel_rfl, by kernel_rfl⟩

def plaws_markText_L1 (k : Nat) : Nat → Int → ByteArray → Option (Out ByteArray ByteArray)
  | 0, _, _ => none
  | m + 1, b114_, d115_ =>
    if (decide (b114_ > 0)) = true then
      if (10 : Int) ≠ 0 then
        if sumOk (strOfNums [wr.u8 (wr.i64 (48 + (Int.tmod b114_ 10)))]) d115_ then
          if (10 : Int) ≠ 0 then
            plaws_markText_L1 k m (wr.i64 (Int.tdiv b114_ 10)) ((strOfNums [wr.u8 (wr.i64 (48 + (Int.tmod b114_ 10)))]) ++ d115_)
          else none
        else none
      else none
    else
      some (.done d115_)
/-- laws.markText -/
def plaws_markText (k : Nat) (b113_ : Int) : Option ByteArray :=
  if (decide (b113_ ≤ 0)) = true then
    some (bs [109, 48])
  else
    (plaws_markText_L1 k k b113_ (bs [])).bind fun out1 => match out1 with
    | .ret r => some r
    | .done d116_ =>
      if sumOk (bs [109]) d116_ then
        some ((bs [109]) ++ d116_)
      else none
theorem claws_markText {k : Nat} {b113_ : Int} {r : ByteArray} (h : plaws_markText k b113_ = some r) : FnO Try.prog 25 [.v (.int .i64 b113_) []] (.v (.str r) []) [] := by
  refine FnO.of Try.func25 (rfl : Try.f25.body = some _) (Nat.le_of_ble_eq_true (by kernel_rfl)) (Nat.le_of_ble_eq_true (by kernel_rfl)) ?_
  intro w0 X0 Fin pv0 pb gt
  unfold plaws_markText at h
  refine Wc.seq ?_
  refine Wc.region [] [] [0] [] [] ⟨[(0, (.v (.int .i64 b113_), []))], [], []⟩ _ (by kernel_rfl) .nil ?_
  refine Wc.seq ?_
  refine Wc.seq ?_
  refine Wc.region [] [] [0, 5] [] [] ⟨[(0, (.v (.int .i64 b113_), [])), (5, (.v (.bool (decide (b113_ ≤ 0))), []))], [], []⟩ _ (by kernel_rfl) .nil ?_
  rcases oif h with ⟨h125, h⟩ | ⟨h125, h⟩
  · refine Wc.condT h125 (by kernel_rfl) ?_
    refine Wc.seq ?_
    refine Wc.region [] [] [2] [] [] ⟨[(2, (.v (.str (bs [109, 48])), []))], [], []⟩ _ (by kernel_rfl) .nil ?_
    refine Wc.ret ?_
    obtain rfl := Option.some.inj h
    exact ⟨.inl rfl, by kernel_rfl, by kernel_rfl⟩
  · refine Wc.condF h125 (by kernel_rfl) ?_
    refine Wc.fix (st' := ⟨[(0, (.v (.int .i64 b113_), []))], [], []⟩) [] [0] [] [] (by kernel_rfl) ?_
    refine Wc.skip ?_
    refine Wc.seq ?_
    refine Wc.region [] [] [0, 3] [] [] ⟨[(0, (.v (.int .i64 b113_), [])), (3, (.v (.str (bs [])), []))], [], []⟩ _ (by kernel_rfl) .nil ?_
    obtain ⟨out1, h126, h⟩ := obind h
    refine Wc.seqJ (fun st => ∃ (d116_ : ByteArray), out1 = .done d116_ ∧ st = ⟨[(3, (.v (.str d116_), []))], [], []⟩) ?_ ?_
    · refine Wc.block ?_
      refine Wc.loop (fun m st => ∃ (b114_ : Int) (d115_ : ByteArray), st = ⟨[(0, (.v (.int .i64 b114_), [])), (3, (.v (.str d115_), []))], [], []⟩ ∧ plaws_markText_L1 k m b114_ d115_ = some out1) ?_ k ⟨_, _, rfl, h126⟩
      rintro m st ⟨b114_, d115_, rfl, h126⟩
      cases m with
      | zero => exact (onone h126).elim
      | succ m =>
        refine Wc.seq ?_
        refine Wc.seq ?_
        refine Wc.region [] [] [0, 3, 7] [] [] ⟨[(0, (.v (.int .i64 b114_), [])), (3, (.v (.str d115_), [])), (7, (.v (.bool (decide (b114_ > 0))), []))], [], []⟩ _ (by kernel_rfl) .nil ?_
        rcases oif h126 with ⟨h127, h126⟩ | ⟨h127, h126⟩
        · refine Wc.condT h127 (by kernel_rfl) ?_
          refine Wc.fix (st' := ⟨[(0, (.v (.int .i64 b114_), [])), (3, (.v (.str d115_), []))], [], []⟩) [] [0, 3] [] [] (by kernel_rfl) ?_
          refine Wc.skip ?_
          refine Wc.block ?_
          refine Wc.seq ?_
          obtain ⟨h128, h126⟩ := oguard h126
          obtain ⟨h129, h126⟩ := oguard h126
          refine Wc.region [{}, {}, {}, {}, { c := some (List.map cI.u8 [wr.u8 (wr.i64 (48 + (Int.tmod b114_ 10)))]) }, { v := some (.str (strOfNums [wr.u8 (wr.i64 (48 + (Int.tmod b114_ 10)))])) }] [] [0, 3] [] [] ⟨[(0, (.v (.int .i64 b114_), [])), (3, (.v (.str ((strOfNums [wr.u8 (wr.i64 (48 + (Int.tmod b114_ 10)))]) ++ d115_)), []))], [], []⟩ _ (by kernel_rfl) (.cons h128 (.cons (cl_cons (c := cI.u8) (x := wr.u8 (wr.i64 (48 + (Int.tmod b114_ 10)))) rfl (cl_nil cI.u8)) (.cons (bytes_obl [wr.u8 (wr.i64 (48 + (Int.tmod b114_ 10)))]) (.cons h129 .nil)))) ?_
          obtain ⟨h130, h126⟩ := oguard h126
          refine Wc.region [] [] [0, 3] [] [] ⟨[(0, (.v (.int .i64 (wr.i64 (Int.tdiv b114_ 10))), [])), (3, (.v (.str ((strOfNums [wr.u8 (wr.i64 (48 + (Int.tmod b114_ 10)))]) ++ d115_)), []))], [], []⟩ _ (by kernel_rfl) (.cons h130 .nil) ?_
          exact ⟨_, Nat.lt_succ_self _, _, _, rfl, h126⟩
        · refine Wc.condF h127 (by kernel_rfl) ?_
          refine Wc.fix (st' := ⟨[(3, (.v (.str d115_), []))], [], []⟩) [] [3] [] [] (by kernel_rfl) ?_
          refine Wc.exit ?_
          obtain rfl := Option.some.inj h126
          exact ⟨_, rfl, rfl⟩
    · rintro st ⟨d116_, rfl, rfl⟩
      refine Wc.seq ?_
      obtain ⟨h131, h⟩ := oguard h
      refine Wc.region [] [] [2] [] [] ⟨[(2, (.v (.str ((bs [109]) ++ d116_)), []))], [], []⟩ _ (by kernel_rfl) (.cons h131 .nil) ?_
      refine Wc.ret ?_
      obtain rfl := Option.some.inj h
      exact ⟨.inl rfl, by kernel_rfl, by kernel_rfl⟩

def plaws_markFileS_L1 (k : Nat) : Nat → Int → Int → (List GFile) → Option (Out ((List GFile) × Int) (Int × (List GFile)))
  | 0, _, _, _ => none
  | m + 1, b119_, b120_, c121_ =>
    if (decide (b120_ < (c121_.length : Int))) = true then
      (plaws_markText k b119_).bind fun d124_ =>
      (at' c121_ b120_).bind fun a125_ =>
      (plaws_markText k (wr.i64 (b119_ + 1))).bind fun d126_ =>
      (at' (c121_.set ((b120_).toNat) (GFile.mk d124_ a125_.gText)) b120_).bind fun a127_ =>
      plaws_markFileS_L1 k m (wr.i64 ((wr.i64 (b119_ + 1)) + 1)) (wr.i64 (b120_ + 1)) ((c121_.set ((b120_).toNat) (GFile.mk d124_ a125_.gText)).set ((b120_).toNat) (GFile.mk a127_.gName d126_))
    else
      some (.done (b119_, c121_))
/-- laws.markFileS -/
def plaws_markFileS (k : Nat) (c117_ : List GFile) (b118_ : Int) : Option ((List GFile) × Int) :=
  (plaws_markFileS_L1 k k b118_ 0 c117_).bind fun out1 => match out1 with
  | .ret r => some r
  | .done (b122_, c123_) =>
    some (c123_, b122_)
theorem claws_markFileS {k : Nat} {c117_ : List GFile} {b118_ : Int} {r : (List GFile) × Int} (h : plaws_markFileS k c117_ b118_ = some r) : FnO Try.prog 10 [.io (.slx) [(0, .ex 1000000007 true (List.map GFile.c c117_))], .v (.int .i64 b118_) []] (.v (.int .i64 r.2) []) [(0, .v .undef [(0, .ex 1000000007 true (List.map GFile.c r.1))])] := by
  refine FnO.of Try.func10 (rfl : Try.f10.body = some _) (Nat.le_of_ble_eq_true (by kernel_rfl)) (Nat.le_of_ble_eq_true (by kernel_rfl)) ?_
  intro w0 X0 Fin pv0 pb gt
  unfold plaws_markFileS at h
  refine Wc.seq ?_
  refine Wc.region [] [] [0, 1] [] [0] ⟨[(0, (.v (.slx), [(0, .al (.a 0 0) [])])), (1, (.v (.int .i64 b118_), []))], [], [(0, [(0, .ex 1000000007 true (List.map GFile.c c117_))])]⟩ _ (by kernel_rfl) .nil ?_
  refine Wc.seq ?_
  refine Wc.seq ?_
  refine Wc.region [] [] [0, 1, 5] [] [0] ⟨[(0, (.v (.slx), [(0, .al (.a 0 0) [])])), (1, (.v (.int .i64 b118_), [])), (5, (.v (.int .i64 0), []))], [], [(0, [(0, .ex 1000000007 true (List.map GFile.c c117_))])]⟩ _ (by kernel_rfl) .nil ?_
  obtain ⟨out1, h132, h⟩ := obind h
  refine Wc.lastJ (fun st => ∃ (b122_ : Int) (c123_ : List GFile), out1 = .done (b122_, c123_) ∧ st = ⟨[(1, (.v (.int .i64 b122_), []))], [], [(0, [(0, .ex 1000000007 true (List.map GFile.c c123_))])]⟩) ?_ ?_
  · refine Wc.block ?_
    refine Wc.loop (fun m st => ∃ (b119_ : Int) (b120_ : Int) (c121_ : List GFile), st = ⟨[(0, (.v (.slx), [(0, .al (.a 0 0) [])])), (1, (.v (.int .i64 b119_), [])), (5, (.v (.int .i64 b120_), []))], [], [(0, [(0, .ex 1000000007 true (List.map GFile.c c121_))])]⟩ ∧ plaws_markFileS_L1 k m b119_ b120_ c121_ = some out1) ?_ k ⟨_, _, _, rfl, h132⟩
    rintro m st ⟨b119_, b120_, c121_, rfl, h132⟩
    cases m with
    | zero => exact (onone h132).elim
    | succ m =>
      refine Wc.seq ?_
      refine Wc.seq ?_
      refine Wc.region [{}, {}, { v := some (.int .i64 (c121_.length : Int)) }] [] [0, 1, 5, 9] [] [0] ⟨[(0, (.v (.slx), [(0, .al (.a 0 0) [])])), (1, (.v (.int .i64 b119_), [])), (5, (.v (.int .i64 b120_), [])), (9, (.v (.bool (decide (b120_ < (c121_.length : Int)))), []))], [], [(0, [(0, .ex 1000000007 true (List.map GFile.c c121_))])]⟩ _ (by kernel_rfl) (.cons (len_obl GFile.c c121_) .nil) ?_
      rcases oif h132 with ⟨h133, h132⟩ | ⟨h133, h132⟩
      · refine Wc.condT h133 (by kernel_rfl) ?_
        refine Wc.fix (st' := ⟨[(0, (.v (.slx), [(0, .al (.a 0 0) [])])), (1, (.v (.int .i64 b119_), [])), (5, (.v (.int .i64 b120_), []))], [], [(0, [(0, .ex 1000000007 true (List.map GFile.c c121_))])]⟩) [] [0, 1, 5] [] [0] (by kernel_rfl) ?_
        refine Wc.skip ?_
        refine Wc.seq ?_
        refine Wc.block ?_
        refine Wc.seq ?_
        obtain ⟨d124_, h134, h132⟩ := obind h132
        obtain ⟨a125_, h135, h132⟩ := obind h132
        refine Wc.region [{}, {}, {}, { r := some (.v (.str d124_) []) }, {}, {}, { c := some (List.map GFile.c (c121_.set ((b120_).toNat) (GFile.mk d124_ a125_.gText))) }] [] [0, 1, 5] [] [0] ⟨[(0, (.v (.slx), [(0, .al (.a 0 0) [])])), (1, (.v (.int .i64 b119_), [])), (5, (.v (.int .i64 b120_), []))], [], [(0, [(0, .ex 1000000007 true (List.map GFile.c (c121_.set ((b120_).toNat) (GFile.mk d124_ a125_.gText))))])]⟩ _ (by kernel_rfl) (.cons (claws_markText h134) (.cons (ix_obl (c := GFile.c) GFile.c_len h135) (.cons (mod_obl (off := 0) (new := [.str d124_]) (c := GFile.c) (GFile.c_eq a125_) (GFile.c_eq (GFile.mk d124_ a125_.gText)) (at'_spec h135).2 rfl) (.cons (st_obl (sz := 2) (off := 0) (s := 1) (c := GFile.c) (GFile.c_eq a125_) (at'_spec h135).2 rfl (Nat.le_of_ble_eq_true rfl)) .nil)))) ?_
        refine Wc.seq ?_
        refine Wc.region [] [] [0, 1, 5] [] [0] ⟨[(0, (.v (.slx), [(0, .al (.a 0 0) [])])), (1, (.v (.int .i64 (wr.i64 (b119_ + 1))), [])), (5, (.v (.int .i64 b120_), []))], [], [(0, [(0, .ex 1000000007 true (List.map GFile.c (c121_.set ((b120_).toNat) (GFile.mk d124_ a125_.gText))))])]⟩ _ (by kernel_rfl) .nil ?_
        refine Wc.seq ?_
        obtain ⟨d126_, h136, h132⟩ := obind h132
        obtain ⟨a127_, h137, h132⟩ := obind h132
        refine Wc.region [{}, {}, {}, { r := some (.v (.str d126_) []) }, {}, {}, { c := some (List.map GFile.c ((c121_.set ((b120_).toNat) (GFile.mk d124_ a125_.gText)).set ((b120_).toNat) (GFile.mk a127_.gName d126_))) }] [] [0, 1, 5] [] [0] ⟨[(0, (.v (.slx), [(0, .al (.a 0 0) [])])), (1, (.v (.int .i64 (wr.i64 (b119_ + 1))), [])), (5, (.v (.int .i64 b120_), []))], [], [(0, [(0, .ex 1000000007 true (List.map GFile.c ((c121_.set ((b120_).toNat) (GFile.mk d124_ a125_.gText)).set ((b120_).toNat) (GFile.mk a127_.gName d126_))))])]⟩ _ (by kernel_rfl) (.cons (claws_markText h136) (.cons (ix_obl (c := GFile.c) GFile.c_len h137) (.cons (mod_obl (off := 1) (new := [.str d126_]) (c := GFile.c) (GFile.c_eq a127_) (GFile.c_eq (GFile.mk a127_.gName d126_)) (at'_spec h137).2 rfl) (.cons (st_obl (sz := 2) (off := 1) (s := 1) (c := GFile.c) (GFile.c_eq a127_) (at'_spec h137).2 rfl (Nat.le_of_ble_eq_true rfl)) .nil)))) ?_
        refine Wc.region [] [] [0, 1, 5] [] [0] ⟨[(0, (.v (.slx), [(0, .al (.a 0 0) [])])), (1, (.v (.int .i64 (wr.i64 ((wr.i64 (b119_ + 1)) + 1))), [])), (5, (.v (.int .i64 b120_), []))], [], [(0, [(0, .ex 1000000007 true (List.map GFile.c ((c121_.set ((b120_).toNat) (GFile.mk d124_ a125_.gText)).set ((b120_).toNat) (GFile.mk a127_.gName d126_))))])]⟩ _ (by kernel_rfl) .nil ?_
        refine Wc.region [] [] [0, 1, 5] [] [0] ⟨[(0, (.v (.slx), [(0, .al (.a 0 0) [])])), (1, (.v (.int .i64 (wr.i64 ((wr.i64 (b119_ + 1)) + 1))), [])), (5, (.v (.int .i64 (wr.i64 (b120_ + 1))), []))], [], [(0, [(0, .ex 1000000007 true (List.map GFile.c ((c121_.set ((b120_).toNat) (GFile.mk d124_ a125_.gText)).set ((b120_).toNat) (GFile.mk a127_.gName d126_))))])]⟩ _ (by kernel_rfl) .nil ?_
        exact ⟨_, Nat.lt_succ_self _, _, _, _, rfl, h132⟩
      · refine Wc.condF h133 (by kernel_rfl) ?_
        refine Wc.fix (st' := ⟨[(1, (.v (.int .i64 b119_), []))], [], [(0, [(0, .ex 1000000007 true (List.map GFile.c c121_))])]⟩) [] [1] [] [0] (by kernel_rfl) ?_
        refine Wc.exit ?_
        obtain rfl := Option.some.inj h132
        exact ⟨_, _, rfl, rfl⟩
  · rintro st ⟨b122_, c123_, rfl, rfl⟩
    refine Wc.seq ?_
    refine Wc.region [] [] [4] [] [0] ⟨[(4, (.v (.int .i64 b122_), []))], [], [(0, [(0, .ex 1000000007 true (List.map GFile.c c123_))])]⟩ _ (by kernel_rfl) .nil ?_
    refine Wc.ret ?_
    obtain rfl := Option.some.inj h
    exact ⟨.inl rfl, by kernel_rfl, by kernel_rfl⟩

def plaws_heldFileS_L1 (k : Nat) (c128_ : List GFile) : Nat → Int → Int → Option (Out Int Int)
  | 0, _, _ => none
  | m + 1, b130_, b131_ =>
    if (decide (b131_ < (c128_.length : Int))) = true then
      (at' c128_ b131_).bind fun a133_ =>
      (plaws_markText k b130_).bind fun d134_ =>
      if (!(sEq a133_.gName d134_)) = true then
        some (.ret (-1))
      else
        (at' c128_ b131_).bind fun a135_ =>
        (plaws_markText k (wr.i64 (b130_ + 1))).bind fun d136_ =>
        if (!(sEq a135_.gText d136_)) = true then
          some (.ret (-1))
        else
          plaws_heldFileS_L1 k c128_ m (wr.i64 ((wr.i64 (b130_ + 1)) + 1)) (wr.i64 (b131_ + 1))
    else
      some (.done b130_)
/-- laws.heldFileS -/
def plaws_heldFileS (k : Nat) (c128_ : List GFile) (b129_ : Int) : Option Int :=
  (plaws_heldFileS_L1 k c128_ k b129_ 0).bind fun out1 => match out1 with
  | .ret r => some r
  | .done b132_ =>
    some b132_
theorem claws_heldFileS {k : Nat} {c128_ : List GFile} {b129_ : Int} {r : Int} (h : plaws_heldFileS k c128_ b129_ = some r) : FnO Try.prog 11 [.v (.sl (List.map GFile.c c128_)) [], .v (.int .i64 b129_) []] (.v (.int .i64 r) []) [] := by
  refine FnO.of Try.func11 (rfl : Try.f11.body = some _) (Nat.le_of_ble_eq_true (by kernel_rfl)) (Nat.le_of_ble_eq_true (by kernel_rfl)) ?_
  intro w0 X0 Fin pv0 pb gt
  unfold plaws_heldFileS at h
  refine Wc.seq ?_
  refine Wc.region [] [] [0, 1] [] [] ⟨[(0, (.v (.sl (List.map GFile.c c128_)), [])), (1, (.v (.int .i64 b129_), []))], [], []⟩ _ (by kernel_rfl) .nil ?_
  refine Wc.seq ?_
  refine Wc.seq ?_
  refine Wc.region [] [] [0, 1, 5] [] [] ⟨[(0, (.v (.sl (List.map GFile.c c128_)), [])), (1, (.v (.int .i64 b129_), [])), (5, (.v (.int .i64 0), []))], [], []⟩ _ (by kernel_rfl) .nil ?_
  obtain ⟨out1, h138, h⟩ := obind h
  refine Wc.lastJ (fun st => ∃ (b132_ : Int), out1 = .done b132_ ∧ st = ⟨[(1, (.v (.int .i64 b132_), []))], [], []⟩) ?_ ?_
  · refine Wc.block ?_
    refine Wc.loop (fun m st => ∃ (b130_ : Int) (b131_ : Int), st = ⟨[(0, (.v (.sl (List.map GFile.c c128_)), [])), (1, (.v (.int .i64 b130_), [])), (5, (.v (.int .i64 b131_), []))], [], []⟩ ∧ plaws_heldFileS_L1 k c128_ m b130_ b131_ = some out1) ?_ k ⟨_, _, rfl, h138⟩
    rintro m st ⟨b130_, b131_, rfl, h138⟩
    cases m with
    | zero => exact (onone h138).elim
    | succ m =>
      refine Wc.seq ?_
      refine Wc.seq ?_
      refine Wc.region [{}, {}, { v := some (.int .i64 (c128_.length : Int)) }] [] [0, 1, 5, 9] [] [] ⟨[(0, (.v (.sl (List.map GFile.c c128_)), [])), (1, (.v (.int .i64 b130_), [])), (5, (.v (.int .i64 b131_), [])), (9, (.v (.bool (decide (b131_ < (c128_.length : Int)))), []))], [], []⟩ _ (by kernel_rfl) (.cons (len_obl GFile.c c128_) .nil) ?_
      rcases oif h138 with ⟨h139, h138⟩ | ⟨h139, h138⟩
      · refine Wc.condT h139 (by kernel_rfl) ?_
        refine Wc.fix (st' := ⟨[(0, (.v (.sl (List.map GFile.c c128_)), [])), (1, (.v (.int .i64 b130_), [])), (5, (.v (.int .i64 b131_), []))], [], []⟩) [] [0, 1, 5] [] [] (by kernel_rfl) ?_
        refine Wc.skip ?_
        refine Wc.seq ?_
        refine Wc.block ?_
        refine Wc.seq ?_
        refine Wc.seq ?_
        obtain ⟨a133_, h140, h138⟩ := obind h138
        obtain ⟨d134_, h141, h138⟩ := obind h138
        refine Wc.draw hmix [{}, {}, { v := some (.vptr [.str a133_.gName, .str a133_.gText]) }, {}, {}, {}, { r := some (.v (.str d134_) []) }] [] [0, 1, 5, 19] [] [] ⟨[(0, (.v (.sl (List.map GFile.c c128_)), [])), (1, (.v (.int .i64 b130_), [])), (5, (.v (.int .i64 b131_), [])), (19, (.v (.bool (!(sEq a133_.gName d134_))), []))], [], []⟩ _ (by kernel_rfl) (fun X => by kernel_rfl) (.cons (at_obl (c := GFile.c) (GFile.c_eq a133_) GFile.c_len h140) (.cons (len_ok 1 [.str a133_.gName, .str a133_.gText]) (.cons (claws_markText h141) .nil))) ?_
        rcases oif h138 with ⟨h142, h138⟩ | ⟨h142, h138⟩
        · refine Wc.condT h142 (by kernel_rfl) ?_
          refine Wc.seq ?_
          refine Wc.region [] [] [4] [] [] ⟨[(4, (.v (.int .i64 (-1)), []))], [], []⟩ _ (by kernel_rfl) .nil ?_
          refine Wc.ret ?_
          obtain rfl := Option.some.inj h138
          obtain rfl := Option.some.inj h
          exact ⟨.inl rfl, by kernel_rfl, by kernel_rfl⟩
        · refine Wc.condF h142 (by kernel_rfl) ?_
          refine Wc.fix (st' := ⟨[(0, (.v (.sl (List.map GFile.c c128_)), [])), (1, (.v (.int .i64 b130_), [])), (5, (.v (.int .i64 b131_), []))], [], []⟩) [] [0, 1, 5] [] [] (by kernel_rfl) ?_
          refine Wc.skip ?_
          refine Wc.seq ?_
          refine Wc.region [] [] [0, 1, 5] [] [] ⟨[(0, (.v (.sl (List.map GFile.c c128_)), [])), (1, (.v (.int .i64 (wr.i64 (b130_ + 1))), [])), (5, (.v (.int .i64 b131_), []))], [], []⟩ _ (by kernel_rfl) .nil ?_
          refine Wc.seq ?_
          refine Wc.seq ?_
          obtain ⟨a135_, h143, h138⟩ := obind h138
          obtain ⟨d136_, h144, h138⟩ := obind h138
          refine Wc.draw hmix [{}, {}, { v := some (.vptr [.str a135_.gName, .str a135_.gText]) }, {}, {}, {}, { r := some (.v (.str d136_) []) }] [] [0, 1, 5, 29] [] [] ⟨[(0, (.v (.sl (List.map GFile.c c128_)), [])), (1, (.v (.int .i64 (wr.i64 (b130_ + 1))), [])), (5, (.v (.int .i64 b131_), [])), (29, (.v (.bool (!(sEq a135_.gText d136_))), []))], [], []⟩ _ (by kernel_rfl) (fun X => by kernel_rfl) (.cons (at_obl (c := GFile.c) (GFile.c_eq a135_) GFile.c_len h143) (.cons (len_ok 1 [.str a135_.gText]) (.cons (claws_markText h144) .nil))) ?_
          rcases oif h138 with ⟨h145, h138⟩ | ⟨h145, h138⟩
          · refine Wc.condT h145 (by kernel_rfl) ?_
            refine Wc.seq ?_
            refine Wc.region [] [] [4] [] [] ⟨[(4, (.v (.int .i64 (-1)), []))], [], []⟩ _ (by kernel_rfl) .nil ?_
            refine Wc.ret ?_
            obtain rfl := Option.some.inj h138
            obtain rfl := Option.some.inj h
            exact ⟨.inl rfl, by kernel_rfl, by kernel_rfl⟩
          · refine Wc.condF h145 (by kernel_rfl) ?_
            refine Wc.fix (st' := ⟨[(0, (.v (.sl (List.map GFile.c c128_)), [])), (1, (.v (.int .i64 (wr.i64 (b130_ + 1))), [])), (5, (.v (.int .i64 b131_), []))], [], []⟩) [] [0, 1, 5] [] [] (by kernel_rfl) ?_
            refine Wc.skip ?_
            refine Wc.region [] [] [0, 1, 5] [] [] ⟨[(0, (.v (.sl (List.map GFile.c c128_)), [])), (1, (.v (.int .i64 (wr.i64 ((wr.i64 (b130_ + 1)) + 1))), [])), (5, (.v (.int .i64 b131_), []))], [], []⟩ _ (by kernel_rfl) .nil ?_
            refine Wc.region [] [] [0, 1, 5] [] [] ⟨[(0, (.v (.sl (List.map GFile.c c128_)), [])), (1, (.v (.int .i64 (wr.i64 ((wr.i64 (b130_ + 1)) + 1))), [])), (5, (.v (.int .i64 (wr.i64 (b131_ + 1))), []))], [], []⟩ _ (by kernel_rfl) .nil ?_
            exact ⟨_, Nat.lt_succ_self _, _, _, rfl, h138⟩
      · refine Wc.condF h139 (by kernel_rfl) ?_
        refine Wc.fix (st' := ⟨[(1, (.v (.int .i64 b130_), []))], [], []⟩) [] [1] [] [] (by kernel_rfl) ?_
        refine Wc.exit ?_
        obtain rfl := Option.some.inj h138
        exact ⟨_, rfl, rfl⟩
  · rintro st ⟨b132_, rfl, rfl⟩
    refine Wc.seq ?_
    refine Wc.region [] [] [4] [] [] ⟨[(4, (.v (.int .i64 b132_), []))], [], []⟩ _ (by kernel_rfl) .nil ?_
    refine Wc.ret ?_
    obtain rfl := Option.some.inj h
    exact ⟨.inl rfl, by kernel_rfl, by kernel_rfl⟩

def pslices_Insert___impl_File_impl_File__d (k : Nat) (l : List GFile) (i : Int) (v : List GFile) : Option (List GFile) :=
  if (0 ≤ i ∧ i.toNat ≤ l.length ∧ l.length + 1 ≤ 1073741824) ∧ v.length = 1 then some (l.take i.toNat ++ (v ++ l.drop i.toNat)) else none
theorem cslices_Insert___impl_File_impl_File__d {k : Nat} {l : List GFile} {i : Int} {v r : List GFile} (h : pslices_Insert___impl_File_impl_File__d k l i v = some r) : FnO Try.prog 23 [.v .slx [(0, .ex 47 true (List.map GFile.c l))], .v (.int .i64 i) [], .v .slx [(0, .ex 47 true (List.map GFile.c v))]] (.v (.slx) [(0, .ex 47 true (List.map GFile.c r))]) [] := by
  obtain ⟨⟨⟨h0, h1, h2⟩, h3⟩, h⟩ := oguard h
  obtain rfl := Option.some.inj h
  match v, h3 with
  | [x], _ =>
    obtain ⟨n, rfl⟩ := Int.eq_ofNat_of_zero_le h0
    have q := insert_O (dp := true) ins_roads (by kernel_rfl) zF_cells (by decide) (rows := l.map GFile.c) (x := x.c) (i := n) (by simpa using h1) (by simpa using h2) (fun c hc => by
      obtain ⟨y, _, rfl⟩ := List.mem_map.1 hc
      rfl) rfl
    have e : insF (l.map GFile.c) n x.c = List.map GFile.c (l.take (n : Int).toNat ++ ([x] ++ l.drop (n : Int).toNat)) := by unfold insF; simp
    rw [e] at q
    exact q

def plaws_toFileS_d_L1 (k : Nat) (c150_ : List GFile) : Nat → (List GFile) → Int → Option (Out (List GFile) (List GFile))
  | 0, _, _ => none
  | m + 1, c151_, b152_ =>
    if (decide (b152_ < (c150_.length : Int))) = true then
      (at' c150_ b152_).bind fun a154_ =>
      (plaws_toFile k a154_).bind fun a155_ =>
      (at' c151_ b152_).bind fun a156_ =>
      plaws_toFileS_d_L1 k c150_ m (c151_.set ((b152_).toNat) a155_) (wr.i64 (b152_ + 1))
    else
      some (.done c151_)
/-- laws.toFileS -/
def plaws_toFileS_d (k : Nat) (c150_ : List GFile) : Option (List GFile) :=
  if 0 ≤ (c150_.length : Int) ∧ (c150_.length : Int) ≤ 1073741824 then
    (plaws_toFileS_d_L1 k c150_ k (List.replicate ((c150_.length : Int)).toNat (GFile.mk (bs []) (bs []))) 0).bind fun out1 => match out1 with
    | .ret r => some r
    | .done c153_ =>
      some c153_
  else none
theorem claws_toFileS_d {k : Nat} {c150_ : List GFile} {r : (List GFile)} (h : plaws_toFileS_d k c150_ = some r) : FnO Try.prog 7 [.v (.sl (List.map GFile.c c150_)) []] (.v (.slx) [(0, .ex 47 true (List.map GFile.c r))]) [] := by
  refine FnO.of Try.func7 (rfl : Try.f7.body = some _) (Nat.le_of_ble_eq_true (by kernel_rfl)) (Nat.le_of_ble_eq_true (by kernel_rfl)) ?_
  intro w0 X0 Fin pv0 pb gt
  unfold plaws_toFileS_d at h
  refine Wc.seq ?_
  refine Wc.region [] [] [0] [] [] ⟨[(0, (.v (.sl (List.map GFile.c c150_)), []))], [], []⟩ _ (by kernel_rfl) .nil ?_
  refine Wc.seq ?_
  obtain ⟨h158, h⟩ := oguard h
  refine Wc.region [{}, { v := some (.int .i64 (c150_.length : Int)) }, { c := some (List.map GFile.c (List.replicate ((c150_.length : Int)).toNat (GFile.mk (bs []) (bs [])))) }, { tk := [7] }] [] [0, 3] [] [] ⟨[(0, (.v (.sl (List.map GFile.c c150_)), [])), (3, (.v (.slx), [(0, .ex 47 true (List.map GFile.c (List.replicate ((c150_.length : Int)).toNat (GFile.mk (bs []) (bs [])))))]))], [], []⟩ _ (by kernel_rfl) (.cons (len_obl GFile.c c150_) (.cons (rep_re (c := GFile.c) (z := (GFile.mk (bs []) (bs []))) (GFile.c_eq (GFile.mk (bs []) (bs []))) ((c150_.length : Int)).toNat) (.cons (ms_obl h158) .nil))) ?_
  refine Wc.seq ?_
  refine Wc.seq ?_
  refine Wc.region [] [] [0, 3, 4] [] [] ⟨[(0, (.v (.sl (List.map GFile.c c150_)), [])), (3, (.v (.slx), [(0, .ex 47 true (List.map GFile.c (List.replicate ((c150_.length : Int)).toNat (GFile.mk (bs []) (bs [])))))])), (4, (.v (.int .i64 0), []))], [], []⟩ _ (by kernel_rfl) .nil ?_
  obtain ⟨out1, h159, h⟩ := obind h
  refine Wc.lastJ (fun st => ∃ (c153_ : List GFile), out1 = .done c153_ ∧ st = ⟨[(3, (.v (.slx), [(0, .ex 47 true (List.map GFile.c c153_))]))], [], []⟩) ?_ ?_
  · refine Wc.block ?_
    refine Wc.loop (fun m st => ∃ (c151_ : List GFile) (b152_ : Int), st = ⟨[(0, (.v (.sl (List.map GFile.c c150_)), [])), (3, (.v (.slx), [(0, .ex 47 true (List.map GFile.c c151_))])), (4, (.v (.int .i64 b152_), []))], [], []⟩ ∧ plaws_toFileS_d_L1 k c150_ m c151_ b152_ = some out1) ?_ k ⟨_, _, rfl, h159⟩
    rintro m st ⟨c151_, b152_, rfl, h159⟩
    cases m with
    | zero => exact (onone h159).elim
    | succ m =>
      refine Wc.seq ?_
      refine Wc.seq ?_
      refine Wc.region [{}, {}, { v := some (.int .i64 (c150_.length : Int)) }] [] [0, 3, 4, 11] [] [] ⟨[(0, (.v (.sl (List.map GFile.c c150_)), [])), (3, (.v (.slx), [(0, .ex 47 true (List.map GFile.c c151_))])), (4, (.v (.int .i64 b152_), [])), (11, (.v (.bool (decide (b152_ < (c150_.length : Int)))), []))], [], []⟩ _ (by kernel_rfl) (.cons (len_obl GFile.c c150_) .nil) ?_
      rcases oif h159 with ⟨h160, h159⟩ | ⟨h160, h159⟩
      · refine Wc.condT h160 (by kernel_rfl) ?_
        refine Wc.fix (st' := ⟨[(0, (.v (.sl (List.map GFile.c c150_)), [])), (3, (.v (.slx), [(0, .ex 47 true (List.map GFile.c c151_))])), (4, (.v (.int .i64 b152_), []))], [], []⟩) [] [0, 3, 4] [] [] (by kernel_rfl) ?_
        refine Wc.skip ?_
        refine Wc.seq ?_
        refine Wc.block ?_
        obtain ⟨a154_, h161, h159⟩ := obind h159
        obtain ⟨a155_, h162, h159⟩ := obind h159
        obtain ⟨a156_, h163, h159⟩ := obind h159
        refine Wc.region [{}, {}, {}, {}, { v := some (.vptr [.str a154_.gName, .str a154_.gText]) }, {}, { r := some (.v (.agg [.str a155_.gName, .str a155_.gText]) []) }, {}, { c := some (List.map GFile.c (c151_.set ((b152_).toNat) a155_)) }] [] [0, 3, 4] [] [] ⟨[(0, (.v (.sl (List.map GFile.c c150_)), [])), (3, (.v (.slx), [(0, .ex 47 true (List.map GFile.c (c151_.set ((b152_).toNat) a155_)))])), (4, (.v (.int .i64 b152_), []))], [], []⟩ _ (by kernel_rfl) (.cons (at_obl (c := GFile.c) (GFile.c_eq a154_) GFile.c_len h161) (.cons (len_ok 2 [.str a154_.gName, .str a154_.gText]) (.cons (claws_toFile h162) (.cons (ix_obl (c := GFile.c) GFile.c_len h163) (.cons (mod_obl (off := 0) (new := [.str a155_.gName, .str a155_.gText]) (c := GFile.c) (GFile.c_eq a156_) (GFile.c_eq a155_) (at'_spec h163).2 rfl) (.cons (st_obl (sz := 2) (off := 0) (s := 2) (c := GFile.c) (GFile.c_eq a156_) (at'_spec h163).2 rfl (Nat.le_of_ble_eq_true rfl)) .nil)))))) ?_
        refine Wc.region [] [] [0, 3, 4] [] [] ⟨[(0, (.v (.sl (List.map GFile.c c150_)), [])), (3, (.v (.slx), [(0, .ex 47 true (List.map GFile.c (c151_.set ((b152_).toNat) a155_)))])), (4, (.v (.int .i64 (wr.i64 (b152_ + 1))), []))], [], []⟩ _ (by kernel_rfl) .nil ?_
        exact ⟨_, Nat.lt_succ_self _, _, _, rfl, h159⟩
      · refine Wc.condF h160 (by kernel_rfl) ?_
        refine Wc.fix (st' := ⟨[(3, (.v (.slx), [(0, .ex 47 true (List.map GFile.c c151_))]))], [], []⟩) [] [3] [] [] (by kernel_rfl) ?_
        refine Wc.exit ?_
        obtain rfl := Option.some.inj h159
        exact ⟨_, rfl, rfl⟩
  · rintro st ⟨c153_, rfl, rfl⟩
    refine Wc.seq ?_
    refine Wc.region [{ tk := [3] }, { tk := [22] }] [] [2] [] [] ⟨[(2, (.v (.slx), [(0, .ex 47 true (List.map GFile.c c153_))]))], [], []⟩ _ (by kernel_rfl) .nil ?_
    refine Wc.ret ?_
    obtain rfl := Option.some.inj h
    exact ⟨.inl rfl, by kernel_rfl, by kernel_rfl⟩

def pimpl_Stored_d_L1 (k : Nat) (c157_ : List GFile) (d158_ : ByteArray) : Nat → Int → Option (Out ((List GFile) × Bool) Int)
  | 0, _ => none
  | m + 1, b161_ =>
    if (decide (b161_ < (c157_.length : Int))) = true then
      (at' c157_ b161_).bind fun a163_ =>
      if (sLt a163_.gName d158_) = true then
        pimpl_Stored_d_L1 k c157_ d158_ m (wr.i64 (b161_ + 1))
      else
        some (.done b161_)
    else
      some (.done b161_)
def pimpl_Stored_d_J2 (k : Nat) (c157_ : List GFile) (c164_ : List GFile) : Option ((List GFile) × Bool) :=
  (pimpl_FilesOk k c164_).bind fun e165_ =>
  if (!e165_) = true then
    if ([] : List GFile).length + c157_.length ≤ 1073741824 then
      some (c157_, false)
    else none
  else
    some (c164_, true)
def pimpl_Stored_d_J3 (k : Nat) (c157_ : List GFile) (b162_ : Int) (d159_ : ByteArray) (d158_ : ByteArray) (e166_ : Bool) : Option ((List GFile) × Bool) :=
  if e166_ = true then
    (at' c157_ b162_).bind fun a167_ =>
    pimpl_Stored_d_J2 k c157_ (c157_.set ((b162_).toNat) (GFile.mk a167_.gName d159_))
  else
    (pslices_Insert___impl_File_impl_File__d k c157_ b162_ [GFile.mk d158_ d159_]).bind fun f168_ =>
    pimpl_Stored_d_J2 k c157_ f168_
/-- impl.Stored -/
def pimpl_Stored_d (k : Nat) (c157_ : List GFile) (d158_ : ByteArray) (d159_ : ByteArray) : Option ((List GFile) × Bool) :=
  if ([] : List GFile).length + c157_.length ≤ 1073741824 then
    (pimpl_FilesOk k c157_).bind fun e160_ =>
    if (!e160_) = true then
      some (c157_, false)
    else
      (pimpl_Stored_d_L1 k c157_ d158_ k 0).bind fun out1 => match out1 with
      | .ret r => some r
      | .done b162_ =>
        if (decide (b162_ < (c157_.length : Int))) = true then
          (at' c157_ b162_).bind fun a169_ =>
          pimpl_Stored_d_J3 k c157_ b162_ d159_ d158_ (sEq a169_.gName d158_)
        else
          pimpl_Stored_d_J3 k c157_ b162_ d159_ d158_ false
  else none
theorem cimpl_Stored_d {k : Nat} {c157_ : List GFile} {d158_ : ByteArray} {d159_ : ByteArray} {r : (List GFile) × Bool} (h : pimpl_Stored_d k c157_ d158_ d159_ = some r) : FnO Try.prog 8 [.v (.sl (List.map GFile.c c157_)) [], .v (.str d158_) [], .v (.str d159_) []] (.v (.tup [.slx, .bool r.2]) [(0, .ex 47 true (List.map GFile.c r.1))]) [] := by
  refine FnO.of Try.func8 (rfl : Try.f8.body = some _) (Nat.le_of_ble_eq_true (by kernel_rfl)) (Nat.le_of_ble_eq_true (by kernel_rfl)) ?_
  intro w0 X0 Fin pv0 pb gt
  unfold pimpl_Stored_d at h
  refine Wc.seq ?_
  refine Wc.region [] [] [0, 1, 2] [] [] ⟨[(0, (.v (.sl (List.map GFile.c c157_)), [])), (1, (.v (.str d158_), [])), (2, (.v (.str d159_), []))], [], []⟩ _ (by kernel_rfl) .nil ?_
  refine Wc.seq ?_
  obtain ⟨h168, h⟩ := oguard h
  refine Wc.region [{}, { c := some (List.map GFile.c c157_), md := 2 }, { tk := [11] }] [] [0, 1, 2, 8] [] [] ⟨[(0, (.v (.sl (List.map GFile.c c157_)), [])), (1, (.v (.str d158_), [])), (2, (.v (.str d159_), [])), (8, (.v (.slx), [(0, .ex 47 true (List.map GFile.c c157_))]))], [], []⟩ _ (by kernel_rfl) (.cons (app_re0 GFile.c c157_) (.cons (app_scal (c := GFile.c) (ys := c157_) GFile.c_scal) (.cons (app_obl2 (c := GFile.c) (xs := []) (ys := c157_) GFile.c_len h168) .nil))) ?_
  refine Wc.seq ?_
  refine Wc.seq ?_
  obtain ⟨e160_, h169, h⟩ := obind h
  refine Wc.region [{}, { r := some (.v (.bool e160_) []) }] [] [0, 1, 2, 8, 14] [] [] ⟨[(0, (.v (.sl (List.map GFile.c c157_)), [])), (1, (.v (.str d158_), [])), (2, (.v (.str d159_), [])), (8, (.v (.slx), [(0, .ex 47 true (List.map GFile.c c157_))])), (14, (.v (.bool (!e160_)), []))], [], []⟩ _ (by kernel_rfl) (.cons (cimpl_FilesOk h169) .nil) ?_
  rcases oif h with ⟨h170, h⟩ | ⟨h170, h⟩
  · refine Wc.condT h170 (by kernel_rfl) ?_
    refine Wc.seq ?_
    refine Wc.region [{ tk := [8] }, { tk := [15] }] [] [6, 7] [] [] ⟨[(6, (.v (.slx), [(0, .ex 47 true (List.map GFile.c c157_))])), (7, (.v (.bool false), []))], [], []⟩ _ (by kernel_rfl) .nil ?_
    refine Wc.ret ?_
    obtain rfl := Option.some.inj h
    exact ⟨.inl rfl, by kernel_rfl, by kernel_rfl⟩
  · refine Wc.condF h170 (by kernel_rfl) ?_
    refine Wc.fix (st' := ⟨[(0, (.v (.sl (List.map GFile.c c157_)), [])), (1, (.v (.str d158_), [])), (2, (.v (.str d159_), [])), (8, (.v (.slx), [(0, .ex 47 true (List.map GFile.c c157_))]))], [], []⟩) [] [0, 1, 2, 8] [] [] (by kernel_rfl) ?_
    refine Wc.skip ?_
    refine Wc.seq ?_
    refine Wc.region [] [] [0, 1, 2, 8, 9] [] [] ⟨[(0, (.v (.sl (List.map GFile.c c157_)), [])), (1, (.v (.str d158_), [])), (2, (.v (.str d159_), [])), (8, (.v (.slx), [(0, .ex 47 true (List.map GFile.c c157_))])), (9, (.v (.int .i64 0), []))], [], []⟩ _ (by kernel_rfl) .nil ?_
    obtain ⟨out1, h171, h⟩ := obind h
    refine Wc.seqJ (fun st => ∃ (b162_ : Int), out1 = .done b162_ ∧ st = ⟨[(0, (.v (.sl (List.map GFile.c c157_)), [])), (1, (.v (.str d158_), [])), (2, (.v (.str d159_), [])), (8, (.v (.slx), [(0, .ex 47 true (List.map GFile.c c157_))])), (9, (.v (.int .i64 b162_), []))], [], []⟩) ?_ ?_
    · refine Wc.block ?_
      refine Wc.loop (fun m st => ∃ (b161_ : Int), st = ⟨[(0, (.v (.sl (List.map GFile.c c157_)), [])), (1, (.v (.str d158_), [])), (2, (.v (.str d159_), [])), (8, (.v (.slx), [(0, .ex 47 true (List.map GFile.c c157_))])), (9, (.v (.int .i64 b161_), []))], [], []⟩ ∧ pimpl_Stored_d_L1 k c157_ d158_ m b161_ = some out1) ?_ k ⟨_, rfl, h171⟩
      rintro m st ⟨b161_, rfl, h171⟩
      cases m with
      | zero => exact (onone h171).elim
      | succ m =>
        refine Wc.seq ?_
        refine Wc.seq ?_
        rcases oif h171 with ⟨h172, h171⟩ | ⟨h172, h171⟩
        · obtain ⟨a163_, h173, h171⟩ := obind h171
          refine Wc.region [{}, {}, { v := some (.int .i64 (c157_.length : Int)) }, {}, { re := some (.bool true) }, {}, {}, {}, {}, { v := some (.str a163_.gName) }] [] [0, 1, 2, 8, 9, 28] [] [] ⟨[(0, (.v (.sl (List.map GFile.c c157_)), [])), (1, (.v (.str d158_), [])), (2, (.v (.str d159_), [])), (8, (.v (.slx), [(0, .ex 47 true (List.map GFile.c c157_))])), (9, (.v (.int .i64 b161_), [])), (28, (.v (.bool (sLt a163_.gName d158_)), []))], [], []⟩ _ (by kernel_rfl) (.cons (len_obl GFile.c c157_) (.cons (congrArg AV.bool h172) (.cons (ix_obl (c := GFile.c) GFile.c_len h173) (.cons (el_oblD (sz := 2) (off := 0) (s := 1) (ag := false) (v := .str a163_.gName) (c := GFile.c) (GFile.c_eq a163_) (at'_spec h173).2 rfl (Nat.le_of_ble_eq_true rfl) rfl) .nil)))) ?_
          rcases oif h171 with ⟨h174, h171⟩ | ⟨h174, h171⟩
          · refine Wc.condT h174 (by kernel_rfl) ?_
            refine Wc.fix (st' := ⟨[(0, (.v (.sl (List.map GFile.c c157_)), [])), (1, (.v (.str d158_), [])), (2, (.v (.str d159_), [])), (8, (.v (.slx), [(0, .ex 47 true (List.map GFile.c c157_))])), (9, (.v (.int .i64 b161_), []))], [], []⟩) [] [0, 1, 2, 8, 9] [] [] (by kernel_rfl) ?_
            refine Wc.skip ?_
            refine Wc.block ?_
            refine Wc.region [] [] [0, 1, 2, 8, 9] [] [] ⟨[(0, (.v (.sl (List.map GFile.c c157_)), [])), (1, (.v (.str d158_), [])), (2, (.v (.str d159_), [])), (8, (.v (.slx), [(0, .ex 47 true (List.map GFile.c c157_))])), (9, (.v (.int .i64 (wr.i64 (b161_ + 1))), []))], [], []⟩ _ (by kernel_rfl) .nil ?_
            exact ⟨_, Nat.lt_succ_self _, _, rfl, h171⟩
          · refine Wc.condF h174 (by kernel_rfl) ?_
            refine Wc.fix (st' := ⟨[(0, (.v (.sl (List.map GFile.c c157_)), [])), (1, (.v (.str d158_), [])), (2, (.v (.str d159_), [])), (8, (.v (.slx), [(0, .ex 47 true (List.map GFile.c c157_))])), (9, (.v (.int .i64 b161_), []))], [], []⟩) [] [0, 1, 2, 8, 9] [] [] (by kernel_rfl) ?_
            refine Wc.exit ?_
            obtain rfl := Option.some.inj h171
            exact ⟨_, rfl, rfl⟩
        · refine Wc.region [{}, {}, { v := some (.int .i64 (c157_.length : Int)) }, {}, { re := some (.bool false) }] [] [0, 1, 2, 8, 9, 28] [] [] ⟨[(0, (.v (.sl (List.map GFile.c c157_)), [])), (1, (.v (.str d158_), [])), (2, (.v (.str d159_), [])), (8, (.v (.slx), [(0, .ex 47 true (List.map GFile.c c157_))])), (9, (.v (.int .i64 b161_), [])), (28, (.v (.bool false), []))], [], []⟩ _ (by kernel_rfl) (.cons (len_obl GFile.c c157_) (.cons (congrArg AV.bool h172) .nil)) ?_
          refine Wc.condF rfl (by kernel_rfl) ?_
          refine Wc.fix (st' := ⟨[(0, (.v (.sl (List.map GFile.c c157_)), [])), (1, (.v (.str d158_), [])), (2, (.v (.str d159_), [])), (8, (.v (.slx), [(0, .ex 47 true (List.map GFile.c c157_))])), (9, (.v (.int .i64 b161_), []))], [], []⟩) [] [0, 1, 2, 8, 9] [] [] (by kernel_rfl) ?_
          refine Wc.exit ?_
          obtain rfl := Option.some.inj h171
          exact ⟨_, rfl, rfl⟩
    · rintro st ⟨b162_, rfl, rfl⟩
      refine Wc.seqJ (fun st => ∃ (c164_ : List GFile), st = ⟨[(0, (.v (.sl (List.map GFile.c c157_)), [])), (8, (.v (.slx), [(0, .ex 47 true (List.map GFile.c c164_))]))], [], []⟩ ∧ pimpl_Stored_d_J2 k c157_ c164_ = some r) ?_ ?_
      · refine Wc.seqJ (fun st => ∃ (e166_ : Bool), st = ⟨[(0, (.v (.sl (List.map GFile.c c157_)), [])), (1, (.v (.str d158_), [])), (2, (.v (.str d159_), [])), (8, (.v (.slx), [(0, .ex 47 true (List.map GFile.c c157_))])), (9, (.v (.int .i64 b162_), [])), (43, (.v (.bool e166_), []))], [], []⟩ ∧ pimpl_Stored_d_J3 k c157_ b162_ d159_ d158_ e166_ = some r) ?_ ?_
        · rcases oif h with ⟨h181, h⟩ | ⟨h181, h⟩
          · obtain ⟨a169_, h182, h⟩ := obind h
            refine Wc.region [{}, {}, { v := some (.int .i64 (c157_.length : Int)) }, {}, { re := some (.bool true) }, {}, {}, {}, {}, { v := some (.str a169_.gName) }] [] [0, 1, 2, 8, 9, 43] [] [] ⟨[(0, (.v (.sl (List.map GFile.c c157_)), [])), (1, (.v (.str d158_), [])), (2, (.v (.str d159_), [])), (8, (.v (.slx), [(0, .ex 47 true (List.map GFile.c c157_))])), (9, (.v (.int .i64 b162_), [])), (43, (.v (.bool (sEq a169_.gName d158_)), []))], [], []⟩ _ (by kernel_rfl) (.cons (len_obl GFile.c c157_) (.cons (congrArg AV.bool h181) (.cons (ix_obl (c := GFile.c) GFile.c_len h182) (.cons (el_oblD (sz := 2) (off := 0) (s := 1) (ag := false) (v := .str a169_.gName) (c := GFile.c) (GFile.c_eq a169_) (at'_spec h182).2 rfl (Nat.le_of_ble_eq_true rfl) rfl) .nil)))) ?_
            exact ⟨_, rfl, h⟩
          · refine Wc.region [{}, {}, { v := some (.int .i64 (c157_.length : Int)) }, {}, { re := some (.bool false) }] [] [0, 1, 2, 8, 9, 43] [] [] ⟨[(0, (.v (.sl (List.map GFile.c c157_)), [])), (1, (.v (.str d158_), [])), (2, (.v (.str d159_), [])), (8, (.v (.slx), [(0, .ex 47 true (List.map GFile.c c157_))])), (9, (.v (.int .i64 b162_), [])), (43, (.v (.bool false), []))], [], []⟩ _ (by kernel_rfl) (.cons (len_obl GFile.c c157_) (.cons (congrArg AV.bool h181) .nil)) ?_
            exact ⟨_, rfl, h⟩
        · rintro st ⟨e166_, rfl, h⟩
          rcases oif h with ⟨h178, h⟩ | ⟨h178, h⟩
          · refine Wc.condT h178 (by kernel_rfl) ?_
            obtain ⟨a167_, h179, h⟩ := obind h
            refine Wc.region [{}, {}, {}, {}, {}, { c := some (List.map GFile.c (c157_.set ((b162_).toNat) (GFile.mk a167_.gName d159_))) }] [] [0, 8] [] [] ⟨[(0, (.v (.sl (List.map GFile.c c157_)), [])), (8, (.v (.slx), [(0, .ex 47 true (List.map GFile.c (c157_.set ((b162_).toNat) (GFile.mk a167_.gName d159_))))]))], [], []⟩ _ (by kernel_rfl) (.cons (ix_obl (c := GFile.c) GFile.c_len h179) (.cons (mod_obl (off := 1) (new := [.str d159_]) (c := GFile.c) (GFile.c_eq a167_) (GFile.c_eq (GFile.mk a167_.gName d159_)) (at'_spec h179).2 rfl) (.cons (st_obl (sz := 2) (off := 1) (s := 1) (c := GFile.c) (GFile.c_eq a167_) (at'_spec h179).2 rfl (Nat.le_of_ble_eq_true rfl)) .nil))) ?_
            exact ⟨_, rfl, h⟩
          · refine Wc.condF h178 (by kernel_rfl) ?_
            obtain ⟨f168_, h180, h⟩ := obind h
            refine Wc.region [{ tk := [8] }, {}, {}, {}, {}, { c := some (List.map GFile.c [GFile.mk d158_ d159_]), md := 2 }, { tk := [49, 54], r := some (.v (.slx) [(0, .ex 47 true (List.map GFile.c f168_))]) }, { tk := [55] }] [] [0, 8] [] [] ⟨[(0, (.v (.sl (List.map GFile.c c157_)), [])), (8, (.v (.slx), [(0, .ex 47 true (List.map GFile.c f168_))]))], [], []⟩ _ (by kernel_rfl) (.cons (cl_cons (c := GFile.c) (x := GFile.mk d158_ d159_) (GFile.c_eq (GFile.mk d158_ d159_)) (cl_nil GFile.c)) (.cons (cslices_Insert___impl_File_impl_File__d h180) .nil)) ?_
            exact ⟨_, rfl, h⟩
      · rintro st ⟨c164_, rfl, h⟩
        refine Wc.seq ?_
        refine Wc.seq ?_
        obtain ⟨e165_, h175, h⟩ := obind h
        refine Wc.region [{}, { r := some (.v (.bool e165_) []) }] [] [0, 8, 58] [] [] ⟨[(0, (.v (.sl (List.map GFile.c c157_)), [])), (8, (.v (.slx), [(0, .ex 47 true (List.map GFile.c c164_))])), (58, (.v (.bool (!e165_)), []))], [], []⟩ _ (by kernel_rfl) (.cons (cimpl_FilesOk h175) .nil) ?_
        rcases oif h with ⟨h176, h⟩ | ⟨h176, h⟩
        · refine Wc.condT h176 (by kernel_rfl) ?_
          refine Wc.seq ?_
          obtain ⟨h177, h⟩ := oguard h
          refine Wc.region [{}, { c := some (List.map GFile.c c157_), md := 2 }, { tk := [60] }] [] [6, 7] [] [] ⟨[(6, (.v (.slx), [(0, .ex 47 true (List.map GFile.c c157_))])), (7, (.v (.bool false), []))], [], []⟩ _ (by kernel_rfl) (.cons (app_re0 GFile.c c157_) (.cons (app_scal (c := GFile.c) (ys := c157_) GFile.c_scal) (.cons (app_obl2 (c := GFile.c) (xs := []) (ys := c157_) GFile.c_len h177) .nil))) ?_
          refine Wc.ret ?_
          obtain rfl := Option.some.inj h
          exact ⟨.inl rfl, by kernel_rfl, by kernel_rfl⟩
        · refine Wc.condF h176 (by kernel_rfl) ?_
          refine Wc.fix (st' := ⟨[(8, (.v (.slx), [(0, .ex 47 true (List.map GFile.c c164_))]))], [], []⟩) [] [8] [] [] (by kernel_rfl) ?_
          refine Wc.skip ?_
          refine Wc.seq ?_
          refine Wc.region [{ tk := [8] }, { tk := [61] }] [] [6, 7] [] [] ⟨[(6, (.v (.slx), [(0, .ex 47 true (List.map GFile.c c164_))])), (7, (.v (.bool true), []))], [], []⟩ _ (by kernel_rfl) .nil ?_
          refine Wc.ret ?_
          obtain rfl := Option.some.inj h
          exact ⟨.inl rfl, by kernel_rfl, by kernel_rfl⟩

/-- laws.FnExactStored -/
def plaws_FnExactStored (k : Nat) (c137_ : List GFile) (d138_ : ByteArray) (d139_ : ByteArray) : Option Bool :=
  if (decide ((d138_.size : Int) > 1048576)) = true then
    some true
  else
    if (decide ((d139_.size : Int) > 1048576)) = true then
      some true
    else
      (plaws_szFileS k c137_ 1048576).bind fun b140_ =>
      if (decide (b140_ < 0)) = true then
        some true
      else
        (plaws_toFileS k c137_).bind fun f141_ =>
        (pspec_Stored k f141_ d138_ d139_).bind fun g142_ =>
        (plaws_toFileS_d k c137_).bind fun f143_ =>
        (pimpl_Stored_d k f143_ d138_ d139_).bind fun g144_ =>
        (plaws_eqFileS k g144_.1 g142_.1).bind fun e145_ =>
        if (!e145_) = true then
          some false
        else
          if (!(g144_.2 == g142_.2)) = true then
            some false
          else
            (plaws_toFileS k c137_).bind fun f146_ =>
            (plaws_eqFileS k f143_ f146_).bind fun e147_ =>
            if (!e147_) = true then
              some false
            else
              (plaws_markFileS k f143_ 1).bind fun i148_ =>
              if (decide (i148_.2 < 0)) = true then
                some false
              else
                (plaws_eqFileS k g144_.1 g142_.1).bind fun e149_ =>
                if (!e149_) = true then
                  some false
                else
                  if (!(g144_.2 == g142_.2)) = true then
                    some false
                  else
                    (plaws_markFileS k g144_.1 1).bind fun i150_ =>
                    (plaws_heldFileS k i150_.1 1).bind fun b151_ =>
                    if (decide (b151_ < 0)) = true then
                      some false
                    else
                      if (b151_ != i150_.2) = true then
                        some false
                      else
                        (plaws_toFileS k c137_).bind fun f152_ =>
                        (pimpl_Stored k f152_ d138_ d139_).bind fun g153_ =>
                        (plaws_eqFileS k g153_.1 g142_.1).bind fun e154_ =>
                        if (!e154_) = true then
                          some false
                        else
                          if (!(g153_.2 == g142_.2)) = true then
                            some false
                          else
                            (plaws_heldFileS k i150_.1 1).bind fun b155_ =>
                            if (decide (b155_ < 0)) = true then
                              some false
                            else
                              if (b155_ != i150_.2) = true then
                                some false
                              else
                                some true
set_option maxHeartbeats 4000000 in
theorem claws_FnExactStored {k : Nat} {c137_ : List GFile} {d138_ : ByteArray} {d139_ : ByteArray} {r : Bool} (h : plaws_FnExactStored k c137_ d138_ d139_ = some r) : FnO Try.prog 3 [.v (.sl (List.map GFile.c c137_)) [], .v (.str d138_) [], .v (.str d139_) []] (.v (.bool r) []) [] := by
  refine FnO.of Try.func3 (rfl : Try.f3.body = some _) (Nat.le_of_ble_eq_true (by kernel_rfl)) (Nat.le_of_ble_eq_true (by kernel_rfl)) ?_
  intro w0 X0 Fin pv0 pb gt
  unfold plaws_FnExactStored at h
  refine Wc.seq ?_
  refine Wc.region [] [] [0, 1, 2] [] [] ⟨[(0, (.v (.sl (List.map GFile.c c137_)), [])), (1, (.v (.str d138_), [])), (2, (.v (.str d139_), []))], [], []⟩ _ (by kernel_rfl) .nil ?_
  refine Wc.seq ?_
  refine Wc.seq ?_
  refine Wc.region [] [] [0, 1, 2, 20] [] [] ⟨[(0, (.v (.sl (List.map GFile.c c137_)), [])), (1, (.v (.str d138_), [])), (2, (.v (.str d139_), [])), (20, (.v (.bool (decide ((d138_.size : Int) > 1048576))), []))], [], []⟩ _ (by kernel_rfl) .nil ?_
  rcases oif h with ⟨h146, h⟩ | ⟨h146, h⟩
  · refine Wc.condT h146 (by kernel_rfl) ?_
    refine Wc.seq ?_
    refine Wc.region [] [] [6] [] [] ⟨[(6, (.v (.bool true), []))], [], []⟩ _ (by kernel_rfl) .nil ?_
    refine Wc.ret ?_
    obtain rfl := Option.some.inj h
    exact ⟨.inl rfl, by kernel_rfl, by kernel_rfl⟩
  · refine Wc.condF h146 (by kernel_rfl) ?_
    refine Wc.fix (st' := ⟨[(0, (.v (.sl (List.map GFile.c c137_)), [])), (1, (.v (.str d138_), [])), (2, (.v (.str d139_), []))], [], []⟩) [] [0, 1, 2] [] [] (by kernel_rfl) ?_
    refine Wc.skip ?_
    refine Wc.seq ?_
    refine Wc.seq ?_
    refine Wc.region [] [] [0, 1, 2, 23] [] [] ⟨[(0, (.v (.sl (List.map GFile.c c137_)), [])), (1, (.v (.str d138_), [])), (2, (.v (.str d139_), [])), (23, (.v (.bool (decide ((d139_.size : Int) > 1048576))), []))], [], []⟩ _ (by kernel_rfl) .nil ?_
    rcases oif h with ⟨h147, h⟩ | ⟨h147, h⟩
    · refine Wc.condT h147 (by kernel_rfl) ?_
      refine Wc.seq ?_
      refine Wc.region [] [] [6] [] [] ⟨[(6, (.v (.bool true), []))], [], []⟩ _ (by kernel_rfl) .nil ?_
      refine Wc.ret ?_
      obtain rfl := Option.some.inj h
      exact ⟨.inl rfl, by kernel_rfl, by kernel_rfl⟩
    · refine Wc.condF h147 (by kernel_rfl) ?_
      refine Wc.fix (st' := ⟨[(0, (.v (.sl (List.map GFile.c c137_)), [])), (1, (.v (.str d138_), [])), (2, (.v (.str d139_), []))], [], []⟩) [] [0, 1, 2] [] [] (by kernel_rfl) ?_
      refine Wc.skip ?_
      refine Wc.seq ?_
      refine Wc.region [] [] [0, 1, 2, 7] [] [] ⟨[(0, (.v (.sl (List.map GFile.c c137_)), [])), (1, (.v (.str d138_), [])), (2, (.v (.str d139_), [])), (7, (.v (.int .i64 1048576), []))], [], []⟩ _ (by kernel_rfl) .nil ?_
      refine Wc.seq ?_
      obtain ⟨b140_, h148, h⟩ := obind h
      refine Wc.region [{}, {}, { r := some (.v (.int .i64 b140_) []) }] [] [0, 1, 2, 7] [] [] ⟨[(0, (.v (.sl (List.map GFile.c c137_)), [])), (1, (.v (.str d138_), [])), (2, (.v (.str d139_), [])), (7, (.v (.int .i64 b140_), []))], [], []⟩ _ (by kernel_rfl) (.cons (claws_szFileS h148) .nil) ?_
      refine Wc.seq ?_
      refine Wc.seq ?_
      refine Wc.region [] [] [0, 1, 2, 28] [] [] ⟨[(0, (.v (.sl (List.map GFile.c c137_)), [])), (1, (.v (.str d138_), [])), (2, (.v (.str d139_), [])), (28, (.v (.bool (decide (b140_ < 0))), []))], [], []⟩ _ (by kernel_rfl) .nil ?_
      rcases oif h with ⟨h149, h⟩ | ⟨h149, h⟩
      · refine Wc.condT h149 (by kernel_rfl) ?_
        refine Wc.seq ?_
        refine Wc.region [] [] [6] [] [] ⟨[(6, (.v (.bool true), []))], [], []⟩ _ (by kernel_rfl) .nil ?_
        refine Wc.ret ?_
        obtain rfl := Option.some.inj h
        exact ⟨.inl rfl, by kernel_rfl, by kernel_rfl⟩
      · refine Wc.condF h149 (by kernel_rfl) ?_
        refine Wc.fix (st' := ⟨[(0, (.v (.sl (List.map GFile.c c137_)), [])), (1, (.v (.str d138_), [])), (2, (.v (.str d139_), []))], [], []⟩) [] [0, 1, 2] [] [] (by kernel_rfl) ?_
        refine Wc.skip ?_
        refine Wc.seq ?_
        obtain ⟨f141_, h150, h⟩ := obind h
        obtain ⟨g142_, h151, h⟩ := obind h
        refine Wc.region [{}, { r := some (.v (.sl (List.map GFile.c f141_)) []) }, {}, {}, { r := some (.v (.tup [.sl (List.map GFile.c g142_.1), .bool g142_.2]) [(0, .app 47)]) }, { tk := [34] }, { tk := [29] }, {}, { tk := [35] }] [] [0, 1, 2, 8, 9] [] [] ⟨[(0, (.v (.sl (List.map GFile.c c137_)), [])), (1, (.v (.str d138_), [])), (2, (.v (.str d139_), [])), (8, (.v (.sl (List.map GFile.c g142_.1)), [(0, .app 47)])), (9, (.v (.bool g142_.2), []))], [], []⟩ _ (by kernel_rfl) (.cons (claws_toFileS h150) (.cons (cspec_Stored h151) .nil)) ?_
        refine Wc.seq ?_
        obtain ⟨f143_, h152, h⟩ := obind h
        refine Wc.region [{}, { r := some (.v (.slx) [(0, .ex 47 true (List.map GFile.c f143_))]) }, { tk := [38] }] [] [0, 1, 2, 8, 9, 10] [] [] ⟨[(0, (.v (.sl (List.map GFile.c c137_)), [])), (1, (.v (.str d138_), [])), (2, (.v (.str d139_), [])), (8, (.v (.sl (List.map GFile.c g142_.1)), [(0, .app 47)])), (9, (.v (.bool g142_.2), [])), (10, (.v (.slx), [(0, .ex 47 true (List.map GFile.c f143_))]))], [], []⟩ _ (by kernel_rfl) (.cons (claws_toFileS_d h152) .nil) ?_
        refine Wc.seq ?_
        obtain ⟨g144_, h153, h⟩ := obind h
        refine Wc.region [{}, {}, {}, { r := some (.v (.tup [.slx, .bool g144_.2]) [(0, .ex 47 true (List.map GFile.c g144_.1))]) }, { tk := [43] }, { tk := [39] }, {}, { tk := [44] }] [] [0, 1, 2, 8, 9, 10, 11, 12] [] [] ⟨[(0, (.v (.sl (List.map GFile.c c137_)), [])), (1, (.v (.str d138_), [])), (2, (.v (.str d139_), [])), (8, (.v (.sl (List.map GFile.c g142_.1)), [(0, .app 47)])), (9, (.v (.bool g142_.2), [])), (10, (.v (.slx), [(0, .ex 47 true (List.map GFile.c f143_))])), (11, (.v (.slx), [(0, .ex 47 true (List.map GFile.c g144_.1))])), (12, (.v (.bool g144_.2), []))], [], []⟩ _ (by kernel_rfl) (.cons (cimpl_Stored_d h153) .nil) ?_
        refine Wc.seq ?_
        refine Wc.seq ?_
        obtain ⟨e145_, h154, h⟩ := obind h
        rcases oif h with ⟨h155, h⟩ | ⟨h155, h⟩
        · refine Wc.region [{}, {}, { r := some (.v (.bool e145_) []) }, {}, { re := some (.bool true) }] [] [0, 1, 2, 8, 9, 10, 11, 12, 54] [] [] ⟨[(0, (.v (.sl (List.map GFile.c c137_)), [])), (1, (.v (.str d138_), [])), (2, (.v (.str d139_), [])), (8, (.v (.sl (List.map GFile.c g142_.1)), [(0, .app 47)])), (9, (.v (.bool g142_.2), [])), (10, (.v (.slx), [(0, .ex 47 true (List.map GFile.c f143_))])), (11, (.v (.slx), [(0, .ex 47 true (List.map GFile.c g144_.1))])), (12, (.v (.bool g144_.2), [])), (54, (.v (.bool true), []))], [], []⟩ _ (by kernel_rfl) (.cons (claws_eqFileS h154) (.cons (congrArg AV.bool h155) .nil)) ?_
          refine Wc.condT rfl (by kernel_rfl) ?_
          refine Wc.seq ?_
          refine Wc.region [] [] [6] [] [] ⟨[(6, (.v (.bool false), []))], [], []⟩ _ (by kernel_rfl) .nil ?_
          refine Wc.ret ?_
          obtain rfl := Option.some.inj h
          exact ⟨.inl rfl, by kernel_rfl, by kernel_rfl⟩
        · refine Wc.region [{}, {}, { r := some (.v (.bool e145_) []) }, {}, { re := some (.bool false) }] [] [0, 1, 2, 8, 9, 10, 11, 12, 54] [] [] ⟨[(0, (.v (.sl (List.map GFile.c c137_)), [])), (1, (.v (.str d138_), [])), (2, (.v (.str d139_), [])), (8, (.v (.sl (List.map GFile.c g142_.1)), [(0, .app 47)])), (9, (.v (.bool g142_.2), [])), (10, (.v (.slx), [(0, .ex 47 true (List.map GFile.c f143_))])), (11, (.v (.slx), [(0, .ex 47 true (List.map GFile.c g144_.1))])), (12, (.v (.bool g144_.2), [])), (54, (.v (.bool (!(g144_.2 == g142_.2))), []))], [], []⟩ _ (by kernel_rfl) (.cons (claws_eqFileS h154) (.cons (congrArg AV.bool h155) .nil)) ?_
          rcases oif h with ⟨h156, h⟩ | ⟨h156, h⟩
          · refine Wc.condT h156 (by kernel_rfl) ?_
            refine Wc.seq ?_
            refine Wc.region [] [] [6] [] [] ⟨[(6, (.v (.bool false), []))], [], []⟩ _ (by kernel_rfl) .nil ?_
            refine Wc.ret ?_
            obtain rfl := Option.some.inj h
            exact ⟨.inl rfl, by kernel_rfl, by kernel_rfl⟩
          · refine Wc.condF h156 (by kernel_rfl) ?_
            refine Wc.fix (st' := ⟨[(0, (.v (.sl (List.map GFile.c c137_)), [])), (1, (.v (.str d138_), [])), (2, (.v (.str d139_), [])), (8, (.v (.sl (List.map GFile.c g142_.1)), [(0, .app 47)])), (9, (.v (.bool g142_.2), [])), (10, (.v (.slx), [(0, .ex 47 true (List.map GFile.c f143_))])), (11, (.v (.slx), [(0, .ex 47 true (List.map GFile.c g144_.1))])), (12, (.v (.bool g144_.2), []))], [], []⟩) [] [0, 1, 2, 8, 9, 10, 11, 12] [] [] (by kernel_rfl) ?_
            refine Wc.skip ?_
            refine Wc.seq ?_
            refine Wc.seq ?_
            obtain ⟨f146_, h157, h⟩ := obind h
            obtain ⟨e147_, h158, h⟩ := obind h
            refine Wc.region [{}, {}, { r := some (.v (.sl (List.map GFile.c f146_)) []) }, { r := some (.v (.bool e147_) []) }] [] [0, 1, 2, 8, 9, 10, 11, 12, 59] [] [] ⟨[(0, (.v (.sl (List.map GFile.c c137_)), [])), (1, (.v (.str d138_), [])), (2, (.v (.str d139_), [])), (8, (.v (.sl (List.map GFile.c g142_.1)), [(0, .app 47)])), (9, (.v (.bool g142_.2), [])), (10, (.v (.slx), [(0, .ex 47 true (List.map GFile.c f143_))])), (11, (.v (.slx), [(0, .ex 47 true (List.map GFile.c g144_.1))])), (12, (.v (.bool g144_.2), [])), (59, (.v (.bool (!e147_)), []))], [], []⟩ _ (by kernel_rfl) (.cons (claws_toFileS h157) (.cons (claws_eqFileS h158) .nil)) ?_
            rcases oif h with ⟨h159, h⟩ | ⟨h159, h⟩
            · refine Wc.condT h159 (by kernel_rfl) ?_
              refine Wc.seq ?_
              refine Wc.region [] [] [6] [] [] ⟨[(6, (.v (.bool false), []))], [], []⟩ _ (by kernel_rfl) .nil ?_
              refine Wc.ret ?_
              obtain rfl := Option.some.inj h
              exact ⟨.inl rfl, by kernel_rfl, by kernel_rfl⟩
            · refine Wc.condF h159 (by kernel_rfl) ?_
              refine Wc.fix (st' := ⟨[(0, (.v (.sl (List.map GFile.c c137_)), [])), (1, (.v (.str d138_), [])), (2, (.v (.str d139_), [])), (8, (.v (.sl (List.map GFile.c g142_.1)), [(0, .app 47)])), (9, (.v (.bool g142_.2), [])), (10, (.v (.slx), [(0, .ex 47 true (List.map GFile.c f143_))])), (11, (.v (.slx), [(0, .ex 47 true (List.map GFile.c g144_.1))])), (12, (.v (.bool g144_.2), []))], [], []⟩) [] [0, 1, 2, 8, 9, 10, 11, 12] [] [] (by kernel_rfl) ?_
              refine Wc.skip ?_
              refine Wc.seq ?_
              refine Wc.region [] [] [0, 1, 2, 8, 9, 10, 11, 12, 13] [] [] ⟨[(0, (.v (.sl (List.map GFile.c c137_)), [])), (1, (.v (.str d138_), [])), (2, (.v (.str d139_), [])), (8, (.v (.sl (List.map GFile.c g142_.1)), [(0, .app 47)])), (9, (.v (.bool g142_.2), [])), (10, (.v (.slx), [(0, .ex 47 true (List.map GFile.c f143_))])), (11, (.v (.slx), [(0, .ex 47 true (List.map GFile.c g144_.1))])), (12, (.v (.bool g144_.2), [])), (13, (.v (.int .i64 1), []))], [], []⟩ _ (by kernel_rfl) .nil ?_
              refine Wc.seq ?_
              obtain ⟨i148_, h160, h⟩ := obind h
              refine Wc.region [{}, {}, { io := [0], r := some (.v (.int .i64 i148_.2) []), outs := [(0, .v .undef [(0, .ex 1000000007 true (List.map GFile.c i148_.1))])] }] [] [0, 1, 2, 8, 9, 11, 12, 13] [] [] ⟨[(0, (.v (.sl (List.map GFile.c c137_)), [])), (1, (.v (.str d138_), [])), (2, (.v (.str d139_), [])), (8, (.v (.sl (List.map GFile.c g142_.1)), [(0, .app 47)])), (9, (.v (.bool g142_.2), [])), (11, (.v (.slx), [(0, .ex 47 true (List.map GFile.c g144_.1))])), (12, (.v (.bool g144_.2), [])), (13, (.v (.int .i64 i148_.2), []))], [], []⟩ _ (by kernel_rfl) (.cons (FnO.any (args := [.io (.slx) [(0, .ex 47 true (List.map GFile.c f143_))], .v (.int .i64 1) []]) (claws_markFileS h160)) .nil) ?_
              refine Wc.seq ?_
              refine Wc.seq ?_
              rcases oif h with ⟨h161, h⟩ | ⟨h161, h⟩
              · refine Wc.region [{}, {}, { re := some (.bool true) }] [] [0, 1, 2, 8, 9, 11, 75] [] [] ⟨[(0, (.v (.sl (List.map GFile.c c137_)), [])), (1, (.v (.str d138_), [])), (2, (.v (.str d139_), [])), (8, (.v (.sl (List.map GFile.c g142_.1)), [(0, .app 47)])), (9, (.v (.bool g142_.2), [])), (11, (.v (.slx), [(0, .ex 47 true (List.map GFile.c g144_.1))])), (75, (.v (.bool true), []))], [], []⟩ _ (by kernel_rfl) (.cons (congrArg AV.bool h161) .nil) ?_
                refine Wc.condT rfl (by kernel_rfl) ?_
                refine Wc.seq ?_
                refine Wc.region [] [] [6] [] [] ⟨[(6, (.v (.bool false), []))], [], []⟩ _ (by kernel_rfl) .nil ?_
                refine Wc.ret ?_
                obtain rfl := Option.some.inj h
                exact ⟨.inl rfl, by kernel_rfl, by kernel_rfl⟩
              · obtain ⟨e149_, h162, h⟩ := obind h
                rcases oif h with ⟨h163, h⟩ | ⟨h163, h⟩
                · refine Wc.region [{}, {}, { re := some (.bool false) }, {}, {}, { r := some (.v (.bool e149_) []) }, {}, {}, { re := some (.bool true) }] [] [0, 1, 2, 8, 9, 11, 75] [] [] ⟨[(0, (.v (.sl (List.map GFile.c c137_)), [])), (1, (.v (.str d138_), [])), (2, (.v (.str d139_), [])), (8, (.v (.sl (List.map GFile.c g142_.1)), [(0, .app 47)])), (9, (.v (.bool g142_.2), [])), (11, (.v (.slx), [(0, .ex 47 true (List.map GFile.c g144_.1))])), (75, (.v (.bool true), []))], [], []⟩ _ (by kernel_rfl) (.cons (congrArg AV.bool h161) (.cons (claws_eqFileS h162) (.cons (congrArg AV.bool h163) .nil))) ?_
                  refine Wc.condT rfl (by kernel_rfl) ?_
                  refine Wc.seq ?_
                  refine Wc.region [] [] [6] [] [] ⟨[(6, (.v (.bool false), []))], [], []⟩ _ (by kernel_rfl) .nil ?_
                  refine Wc.ret ?_
                  obtain rfl := Option.some.inj h
                  exact ⟨.inl rfl, by kernel_rfl, by kernel_rfl⟩
                · refine Wc.region [{}, {}, { re := some (.bool false) }, {}, {}, { r := some (.v (.bool e149_) []) }, {}, {}, { re := some (.bool false) }] [] [0, 1, 2, 8, 9, 11, 75] [] [] ⟨[(0, (.v (.sl (List.map GFile.c c137_)), [])), (1, (.v (.str d138_), [])), (2, (.v (.str d139_), [])), (8, (.v (.sl (List.map GFile.c g142_.1)), [(0, .app 47)])), (9, (.v (.bool g142_.2), [])), (11, (.v (.slx), [(0, .ex 47 true (List.map GFile.c g144_.1))])), (75, (.v (.bool (!(g144_.2 == g142_.2))), []))], [], []⟩ _ (by kernel_rfl) (.cons (congrArg AV.bool h161) (.cons (claws_eqFileS h162) (.cons (congrArg AV.bool h163) .nil))) ?_
                  rcases oif h with ⟨h164, h⟩ | ⟨h164, h⟩
                  · refine Wc.condT h164 (by kernel_rfl) ?_
                    refine Wc.seq ?_
                    refine Wc.region [] [] [6] [] [] ⟨[(6, (.v (.bool false), []))], [], []⟩ _ (by kernel_rfl) .nil ?_
                    refine Wc.ret ?_
                    obtain rfl := Option.some.inj h
                    exact ⟨.inl rfl, by kernel_rfl, by kernel_rfl⟩
                  · refine Wc.condF h164 (by kernel_rfl) ?_
                    refine Wc.fix (st' := ⟨[(0, (.v (.sl (List.map GFile.c c137_)), [])), (1, (.v (.str d138_), [])), (2, (.v (.str d139_), [])), (8, (.v (.sl (List.map GFile.c g142_.1)), [(0, .app 47)])), (9, (.v (.bool g142_.2), [])), (11, (.v (.slx), [(0, .ex 47 true (List.map GFile.c g144_.1))]))], [], []⟩) [] [0, 1, 2, 8, 9, 11] [] [] (by kernel_rfl) ?_
                    refine Wc.skip ?_
                    refine Wc.seq ?_
                    refine Wc.region [] [] [0, 1, 2, 8, 9, 11, 14] [] [] ⟨[(0, (.v (.sl (List.map GFile.c c137_)), [])), (1, (.v (.str d138_), [])), (2, (.v (.str d139_), [])), (8, (.v (.sl (List.map GFile.c g142_.1)), [(0, .app 47)])), (9, (.v (.bool g142_.2), [])), (11, (.v (.slx), [(0, .ex 47 true (List.map GFile.c g144_.1))])), (14, (.v (.int .i64 1), []))], [], []⟩ _ (by kernel_rfl) .nil ?_
                    refine Wc.seq ?_
                    obtain ⟨i150_, h165, h⟩ := obind h
                    refine Wc.region [{}, {}, { io := [0], r := some (.v (.int .i64 i150_.2) []), outs := [(0, .v .undef [(0, .ex 1000000007 true (List.map GFile.c i150_.1))])] }] [] [0, 1, 2, 8, 9, 11, 14] [] [] ⟨[(0, (.v (.sl (List.map GFile.c c137_)), [])), (1, (.v (.str d138_), [])), (2, (.v (.str d139_), [])), (8, (.v (.sl (List.map GFile.c g142_.1)), [(0, .app 47)])), (9, (.v (.bool g142_.2), [])), (11, (.v (.slx), [(0, .ex 1000000007 true (List.map GFile.c i150_.1))])), (14, (.v (.int .i64 i150_.2), []))], [], []⟩ _ (by kernel_rfl) (.cons (FnO.any (args := [.io (.slx) [(0, .ex 47 true (List.map GFile.c g144_.1))], .v (.int .i64 1) []]) (claws_markFileS h165)) .nil) ?_
                    refine Wc.seq ?_
                    refine Wc.region [] [] [0, 1, 2, 8, 9, 11, 14, 15] [] [] ⟨[(0, (.v (.sl (List.map GFile.c c137_)), [])), (1, (.v (.str d138_), [])), (2, (.v (.str d139_), [])), (8, (.v (.sl (List.map GFile.c g142_.1)), [(0, .app 47)])), (9, (.v (.bool g142_.2), [])), (11, (.v (.slx), [(0, .ex 1000000007 true (List.map GFile.c i150_.1))])), (14, (.v (.int .i64 i150_.2), [])), (15, (.v (.int .i64 1), []))], [], []⟩ _ (by kernel_rfl) .nil ?_
                    refine Wc.seq ?_
                    obtain ⟨b151_, h166, h⟩ := obind h
                    refine Wc.region [{}, {}, { r := some (.v (.int .i64 b151_) []) }] [] [0, 1, 2, 8, 9, 11, 14, 15] [] [] ⟨[(0, (.v (.sl (List.map GFile.c c137_)), [])), (1, (.v (.str d138_), [])), (2, (.v (.str d139_), [])), (8, (.v (.sl (List.map GFile.c g142_.1)), [(0, .app 47)])), (9, (.v (.bool g142_.2), [])), (11, (.v (.slx), [(0, .ex 1000000007 true (List.map GFile.c i150_.1))])), (14, (.v (.int .i64 i150_.2), [])), (15, (.v (.int .i64 b151_), []))], [], []⟩ _ (by kernel_rfl) (.cons (claws_heldFileS h166) .nil) ?_
                    refine Wc.seq ?_
                    refine Wc.seq ?_
                    refine Wc.region [] [] [0, 1, 2, 8, 9, 11, 14, 15, 83] [] [] ⟨[(0, (.v (.sl (List.map GFile.c c137_)), [])), (1, (.v (.str d138_), [])), (2, (.v (.str d139_), [])), (8, (.v (.sl (List.map GFile.c g142_.1)), [(0, .app 47)])), (9, (.v (.bool g142_.2), [])), (11, (.v (.slx), [(0, .ex 1000000007 true (List.map GFile.c i150_.1))])), (14, (.v (.int .i64 i150_.2), [])), (15, (.v (.int .i64 b151_), [])), (83, (.v (.bool (decide (b151_ < 0))), []))], [], []⟩ _ (by kernel_rfl) .nil ?_
                    rcases oif h with ⟨h167, h⟩ | ⟨h167, h⟩
                    · refine Wc.condT h167 (by kernel_rfl) ?_
                      refine Wc.seq ?_
                      refine Wc.region [] [] [6] [] [] ⟨[(6, (.v (.bool false), []))], [], []⟩ _ (by kernel_rfl) .nil ?_
                      refine Wc.ret ?_
                      obtain rfl := Option.some.inj h
                      exact ⟨.inl rfl, by kernel_rfl, by kernel_rfl⟩
                    · refine Wc.condF h167 (by kernel_rfl) ?_
                      refine Wc.fix (st' := ⟨[(0, (.v (.sl (List.map GFile.c c137_)), [])), (1, (.v (.str d138_), [])), (2, (.v (.str d139_), [])), (8, (.v (.sl (List.map GFile.c g142_.1)), [(0, .app 47)])), (9, (.v (.bool g142_.2), [])), (11, (.v (.slx), [(0, .ex 1000000007 true (List.map GFile.c i150_.1))])), (14, (.v (.int .i64 i150_.2), [])), (15, (.v (.int .i64 b151_), []))], [], []⟩) [] [0, 1, 2, 8, 9, 11, 14, 15] [] [] (by kernel_rfl) ?_
                      refine Wc.skip ?_
                      refine Wc.seq ?_
                      refine Wc.seq ?_
                      refine Wc.region [] [] [0, 1, 2, 8, 9, 11, 14, 86] [] [] ⟨[(0, (.v (.sl (List.map GFile.c c137_)), [])), (1, (.v (.str d138_), [])), (2, (.v (.str d139_), [])), (8, (.v (.sl (List.map GFile.c g142_.1)), [(0, .app 47)])), (9, (.v (.bool g142_.2), [])), (11, (.v (.slx), [(0, .ex 1000000007 true (List.map GFile.c i150_.1))])), (14, (.v (.int .i64 i150_.2), [])), (86, (.v (.bool (b151_ != i150_.2)), []))], [], []⟩ _ (by kernel_rfl) .nil ?_
                      rcases oif h with ⟨h168, h⟩ | ⟨h168, h⟩
                      · refine Wc.condT h168 (by kernel_rfl) ?_
                        refine Wc.seq ?_
                        refine Wc.region [] [] [6] [] [] ⟨[(6, (.v (.bool false), []))], [], []⟩ _ (by kernel_rfl) .nil ?_
                        refine Wc.ret ?_
                        obtain rfl := Option.some.inj h
                        exact ⟨.inl rfl, by kernel_rfl, by kernel_rfl⟩
                      · refine Wc.condF h168 (by kernel_rfl) ?_
                        refine Wc.fix (st' := ⟨[(0, (.v (.sl (List.map GFile.c c137_)), [])), (1, (.v (.str d138_), [])), (2, (.v (.str d139_), [])), (8, (.v (.sl (List.map GFile.c g142_.1)), [(0, .app 47)])), (9, (.v (.bool g142_.2), [])), (11, (.v (.slx), [(0, .ex 1000000007 true (List.map GFile.c i150_.1))])), (14, (.v (.int .i64 i150_.2), []))], [], []⟩) [] [0, 1, 2, 8, 9, 11, 14] [] [] (by kernel_rfl) ?_
                        refine Wc.skip ?_
                        refine Wc.seq ?_
                        obtain ⟨f152_, h169, h⟩ := obind h
                        obtain ⟨g153_, h170, h⟩ := obind h
                        refine Wc.region [{}, { r := some (.v (.sl (List.map GFile.c f152_)) []) }, {}, {}, { r := some (.v (.tup [.sl (List.map GFile.c g153_.1), .bool g153_.2]) []) }] [] [8, 9, 11, 14, 16, 17] [] [] ⟨[(8, (.v (.sl (List.map GFile.c g142_.1)), [(0, .app 47)])), (9, (.v (.bool g142_.2), [])), (11, (.v (.slx), [(0, .ex 1000000007 true (List.map GFile.c i150_.1))])), (14, (.v (.int .i64 i150_.2), [])), (16, (.v (.sl (List.map GFile.c g153_.1)), [])), (17, (.v (.bool g153_.2), []))], [], []⟩ _ (by kernel_rfl) (.cons (claws_toFileS h169) (.cons (cimpl_Stored h170) .nil)) ?_
                        refine Wc.seq ?_
                        refine Wc.seq ?_
                        obtain ⟨e154_, h171, h⟩ := obind h
                        rcases oif h with ⟨h172, h⟩ | ⟨h172, h⟩
                        · refine Wc.region [{}, { tk := [8] }, { r := some (.v (.bool e154_) []) }, {}, { re := some (.bool true) }] [] [11, 14, 103] [] [] ⟨[(11, (.v (.slx), [(0, .ex 1000000007 true (List.map GFile.c i150_.1))])), (14, (.v (.int .i64 i150_.2), [])), (103, (.v (.bool true), []))], [], []⟩ _ (by kernel_rfl) (.cons (claws_eqFileS h171) (.cons (congrArg AV.bool h172) .nil)) ?_
                          refine Wc.condT rfl (by kernel_rfl) ?_
                          refine Wc.seq ?_
                          refine Wc.region [] [] [6] [] [] ⟨[(6, (.v (.bool false), []))], [], []⟩ _ (by kernel_rfl) .nil ?_
                          refine Wc.ret ?_
                          obtain rfl := Option.some.inj h
                          exact ⟨.inl rfl, by kernel_rfl, by kernel_rfl⟩
                        · refine Wc.region [{}, { tk := [8] }, { r := some (.v (.bool e154_) []) }, {}, { re := some (.bool false) }] [] [11, 14, 103] [] [] ⟨[(11, (.v (.slx), [(0, .ex 1000000007 true (List.map GFile.c i150_.1))])), (14, (.v (.int .i64 i150_.2), [])), (103, (.v (.bool (!(g153_.2 == g142_.2))), []))], [], []⟩ _ (by kernel_rfl) (.cons (claws_eqFileS h171) (.cons (congrArg AV.bool h172) .nil)) ?_
                          rcases oif h with ⟨h173, h⟩ | ⟨h173, h⟩
                          · refine Wc.condT h173 (by kernel_rfl) ?_
                            refine Wc.seq ?_
                            refine Wc.region [] [] [6] [] [] ⟨[(6, (.v (.bool false), []))], [], []⟩ _ (by kernel_rfl) .nil ?_
                            refine Wc.ret ?_
                            obtain rfl := Option.some.inj h
                            exact ⟨.inl rfl, by kernel_rfl, by kernel_rfl⟩
                          · refine Wc.condF h173 (by kernel_rfl) ?_
                            refine Wc.fix (st' := ⟨[(11, (.v (.slx), [(0, .ex 1000000007 true (List.map GFile.c i150_.1))])), (14, (.v (.int .i64 i150_.2), []))], [], []⟩) [] [11, 14] [] [] (by kernel_rfl) ?_
                            refine Wc.skip ?_
                            refine Wc.seq ?_
                            refine Wc.region [] [] [11, 14, 15] [] [] ⟨[(11, (.v (.slx), [(0, .ex 1000000007 true (List.map GFile.c i150_.1))])), (14, (.v (.int .i64 i150_.2), [])), (15, (.v (.int .i64 1), []))], [], []⟩ _ (by kernel_rfl) .nil ?_
                            refine Wc.seq ?_
                            obtain ⟨b155_, h174, h⟩ := obind h
                            refine Wc.region [{ tk := [11] }, {}, { r := some (.v (.int .i64 b155_) []) }] [] [14, 15] [] [] ⟨[(14, (.v (.int .i64 i150_.2), [])), (15, (.v (.int .i64 b155_), []))], [], []⟩ _ (by kernel_rfl) (.cons (claws_heldFileS h174) .nil) ?_
                            refine Wc.seq ?_
                            refine Wc.seq ?_
                            refine Wc.region [] [] [14, 15, 108] [] [] ⟨[(14, (.v (.int .i64 i150_.2), [])), (15, (.v (.int .i64 b155_), [])), (108, (.v (.bool (decide (b155_ < 0))), []))], [], []⟩ _ (by kernel_rfl) .nil ?_
                            rcases oif h with ⟨h175, h⟩ | ⟨h175, h⟩
                            · refine Wc.condT h175 (by kernel_rfl) ?_
                              refine Wc.seq ?_
                              refine Wc.region [] [] [6] [] [] ⟨[(6, (.v (.bool false), []))], [], []⟩ _ (by kernel_rfl) .nil ?_
                              refine Wc.ret ?_
                              obtain rfl := Option.some.inj h
                              exact ⟨.inl rfl, by kernel_rfl, by kernel_rfl⟩
                            · refine Wc.condF h175 (by kernel_rfl) ?_
                              refine Wc.fix (st' := ⟨[(14, (.v (.int .i64 i150_.2), [])), (15, (.v (.int .i64 b155_), []))], [], []⟩) [] [14, 15] [] [] (by kernel_rfl) ?_
                              refine Wc.skip ?_
                              refine Wc.seq ?_
                              refine Wc.seq ?_
                              refine Wc.region [] [] [111] [] [] ⟨[(111, (.v (.bool (b155_ != i150_.2)), []))], [], []⟩ _ (by kernel_rfl) .nil ?_
                              rcases oif h with ⟨h176, h⟩ | ⟨h176, h⟩
                              · refine Wc.condT h176 (by kernel_rfl) ?_
                                refine Wc.seq ?_
                                refine Wc.region [] [] [6] [] [] ⟨[(6, (.v (.bool false), []))], [], []⟩ _ (by kernel_rfl) .nil ?_
                                refine Wc.ret ?_
                                obtain rfl := Option.some.inj h
                                exact ⟨.inl rfl, by kernel_rfl, by kernel_rfl⟩
                              · refine Wc.condF h176 (by kernel_rfl) ?_
                                refine Wc.fix (st' := ⟨[], [], []⟩) [] [] [] [] (by kernel_rfl) ?_
                                refine Wc.skip ?_
                                refine Wc.seq ?_
                                refine Wc.region [] [] [6] [] [] ⟨[(6, (.v (.bool true), []))], [], []⟩ _ (by kernel_rfl) .nil ?_
                                refine Wc.ret ?_
                                obtain rfl := Option.some.inj h
                                exact ⟨.inl rfl, by kernel_rfl, by kernel_rfl⟩
end Go.Proofs.Ytopcdlkmfninaaa

/- What the functions do. -/
import Derived.Test.YtbpenglnebpbcaaTy
set_option linter.unusedVariables false
set_option linter.unusedSimpArgs false
namespace Go.Proofs.Ytbpenglnebpbcaa
open Go.RowKit Go.Av
/-- laws.szFile -/
def plaws_szFile (k : Nat) (a1_ : GFile) (b2_ : Int) : Option Int :=
  if (decide ((wr.i64 (b2_ - (a1_.gName.size : Int))) < 0)) = true then
    some (-1)
  else
    if (decide ((wr.i64 ((wr.i64 (b2_ - (a1_.gName.size : Int))) - (a1_.gText.size : Int))) < 0)) = true then
      some (-1)
    else
      some (wr.i64 ((wr.i64 (b2_ - (a1_.gName.size : Int))) - (a1_.gText.size : Int)))
theorem claws_szFile {k : Nat} {a1_ : GFile} {b2_ : Int} {r : Int} (h : plaws_szFile k a1_ b2_ = some r) : FnC Try.prog 40 [.agg [.str a1_.gName, .str a1_.gText], .int .i64 b2_] (.int .i64 r) [] := by
  refine FnC.of Try.func40 (rfl : Try.f40.body = some _) (Nat.le_of_ble_eq_true (by kernel_rfl)) ?_
  intro w0 X0
  unfold plaws_szFile at h
  refine Wc.seq ?_
  refine Wc.region [] [1, 2] [2] [] ⟨[(1, (.v (.int .i64 b2_), [])), (2, (.ptr 2 0, []))], [(2, ([.str a1_.gName, .str a1_.gText], []))], []⟩ _ (by kernel_rfl) .nil ?_
  refine Wc.seq ?_
  refine Wc.region [] [1, 2] [2] [] ⟨[(1, (.v (.int .i64 (wr.i64 (b2_ - (a1_.gName.size : Int)))), [])), (2, (.ptr 2 0, []))], [(2, ([.str a1_.gName, .str a1_.gText], []))], []⟩ _ (by kernel_rfl) .nil ?_
  refine Wc.seq ?_
  refine Wc.seq ?_
  refine Wc.region [] [1, 2, 11] [2] [] ⟨[(1, (.v (.int .i64 (wr.i64 (b2_ - (a1_.gName.size : Int)))), [])), (2, (.ptr 2 0, [])), (11, (.v (.bool (decide ((wr.i64 (b2_ - (a1_.gName.size : Int))) < 0))), []))], [(2, ([.str a1_.gName, .str a1_.gText], []))], []⟩ _ (by kernel_rfl) .nil ?_
  rcases oif h with ⟨h1, h⟩ | ⟨h1, h⟩
  · refine Wc.condT h1 (by kernel_rfl) ?_
    refine Wc.seq ?_
    refine Wc.region [] [4] [] [] ⟨[(4, (.v (.int .i64 (-1)), []))], [], []⟩ _ (by kernel_rfl) .nil ?_
    refine Wc.ret ?_
    obtain rfl := Option.some.inj h
    exact ⟨.inl rfl, by kernel_rfl⟩
  · refine Wc.condF h1 (by kernel_rfl) ?_
    refine Wc.keep [1, 2] [2] [] ⟨[(1, (.v (.int .i64 (wr.i64 (b2_ - (a1_.gName.size : Int)))), [])), (2, (.ptr 2 0, []))], [(2, ([.str a1_.gName, .str a1_.gText], []))], []⟩ (by kernel_rfl) ?_
    refine Wc.skip ?_
    refine Wc.seq ?_
    refine Wc.region [] [1] [] [] ⟨[(1, (.v (.int .i64 (wr.i64 ((wr.i64 (b2_ - (a1_.gName.size : Int))) - (a1_.gText.size : Int)))), []))], [], []⟩ _ (by kernel_rfl) .nil ?_
    refine Wc.seq ?_
    refine Wc.seq ?_
    refine Wc.region [] [1, 18] [] [] ⟨[(1, (.v (.int .i64 (wr.i64 ((wr.i64 (b2_ - (a1_.gName.size : Int))) - (a1_.gText.size : Int)))), [])), (18, (.v (.bool (decide ((wr.i64 ((wr.i64 (b2_ - (a1_.gName.size : Int))) - (a1_.gText.size : Int))) < 0))), []))], [], []⟩ _ (by kernel_rfl) .nil ?_
    rcases oif h with ⟨h2, h⟩ | ⟨h2, h⟩
    · refine Wc.condT h2 (by kernel_rfl) ?_
      refine Wc.seq ?_
      refine Wc.region [] [4] [] [] ⟨[(4, (.v (.int .i64 (-1)), []))], [], []⟩ _ (by kernel_rfl) .nil ?_
      refine Wc.ret ?_
      obtain rfl := Option.some.inj h
      exact ⟨.inl rfl, by kernel_rfl⟩
    · refine Wc.condF h2 (by kernel_rfl) ?_
      refine Wc.keep [1] [] [] ⟨[(1, (.v (.int .i64 (wr.i64 ((wr.i64 (b2_ - (a1_.gName.size : Int))) - (a1_.gText.size : Int)))), []))], [], []⟩ (by kernel_rfl) ?_
      refine Wc.skip ?_
      refine Wc.seq ?_
      refine Wc.region [] [4] [] [] ⟨[(4, (.v (.int .i64 (wr.i64 ((wr.i64 (b2_ - (a1_.gName.size : Int))) - (a1_.gText.size : Int)))), []))], [], []⟩ _ (by kernel_rfl) .nil ?_
      refine Wc.ret ?_
      obtain rfl := Option.some.inj h
      exact ⟨.inl rfl, by kernel_rfl⟩

def plaws_szFileS_L1 (k : Nat) (c3_ : List GFile) : Nat → Int → Int → Option (Out Int Int)
  | 0, _, _ => none
  | m + 1, b5_, b6_ =>
    if (decide (b6_ < (c3_.length : Int))) = true then
      (at' c3_ b6_).bind fun a8_ =>
      (plaws_szFile k a8_ b5_).bind fun b9_ =>
      if (decide (b9_ < 0)) = true then
        some (.ret (-1))
      else
        plaws_szFileS_L1 k c3_ m b9_ (wr.i64 (b6_ + 1))
    else
      some (.done b5_)
/-- laws.szFileS -/
def plaws_szFileS (k : Nat) (c3_ : List GFile) (b4_ : Int) : Option Int :=
  if (decide ((wr.i64 (b4_ - (c3_.length : Int))) < 0)) = true then
    some (-1)
  else
    (plaws_szFileS_L1 k c3_ k (wr.i64 (b4_ - (c3_.length : Int))) 0).bind fun out1 => match out1 with
    | .ret r => some r
    | .done b7_ =>
      some b7_
theorem claws_szFileS {k : Nat} {c3_ : List GFile} {b4_ : Int} {r : Int} (h : plaws_szFileS k c3_ b4_ = some r) : FnC Try.prog 13 [.sl (List.map GFile.c c3_), .int .i64 b4_] (.int .i64 r) [] := by
  refine FnC.of Try.func13 (rfl : Try.f13.body = some _) (Nat.le_of_ble_eq_true (by kernel_rfl)) ?_
  intro w0 X0
  unfold plaws_szFileS at h
  refine Wc.seq ?_
  refine Wc.region [] [0, 1] [] [] ⟨[(0, (.v (.sl (List.map GFile.c c3_)), [])), (1, (.v (.int .i64 b4_), []))], [], []⟩ _ (by kernel_rfl) .nil ?_
  refine Wc.seq ?_
  refine Wc.region [((none, []), none), ((none, []), none), ((some (.int .i64 (c3_.length : Int)), []), none)] [0, 1] [] [] ⟨[(0, (.v (.sl (List.map GFile.c c3_)), [])), (1, (.v (.int .i64 (wr.i64 (b4_ - (c3_.length : Int)))), []))], [], []⟩ _ (by kernel_rfl) (.cons (len_obl GFile.c c3_) .nil) ?_
  refine Wc.seq ?_
  refine Wc.seq ?_
  refine Wc.region [] [0, 1, 11] [] [] ⟨[(0, (.v (.sl (List.map GFile.c c3_)), [])), (1, (.v (.int .i64 (wr.i64 (b4_ - (c3_.length : Int)))), [])), (11, (.v (.bool (decide ((wr.i64 (b4_ - (c3_.length : Int))) < 0))), []))], [], []⟩ _ (by kernel_rfl) .nil ?_
  rcases oif h with ⟨h3, h⟩ | ⟨h3, h⟩
  · refine Wc.condT h3 (by kernel_rfl) ?_
    refine Wc.seq ?_
    refine Wc.region [] [4] [] [] ⟨[(4, (.v (.int .i64 (-1)), []))], [], []⟩ _ (by kernel_rfl) .nil ?_
    refine Wc.ret ?_
    obtain rfl := Option.some.inj h
    exact ⟨.inl rfl, by kernel_rfl⟩
  · refine Wc.condF h3 (by kernel_rfl) ?_
    refine Wc.keep [0, 1] [] [] ⟨[(0, (.v (.sl (List.map GFile.c c3_)), [])), (1, (.v (.int .i64 (wr.i64 (b4_ - (c3_.length : Int)))), []))], [], []⟩ (by kernel_rfl) ?_
    refine Wc.skip ?_
    refine Wc.seq ?_
    refine Wc.seq ?_
    refine Wc.region [] [0, 1, 5] [] [] ⟨[(0, (.v (.sl (List.map GFile.c c3_)), [])), (1, (.v (.int .i64 (wr.i64 (b4_ - (c3_.length : Int)))), [])), (5, (.v (.int .i64 0), []))], [], []⟩ _ (by kernel_rfl) .nil ?_
    obtain ⟨out1, h4, h⟩ := obind h
    refine Wc.lastJ (fun st => ∃ (b7_ : Int), out1 = .done b7_ ∧ st = ⟨[(1, (.v (.int .i64 b7_), []))], [], []⟩) ?_ ?_
    · refine Wc.block ?_
      refine Wc.loop (fun m st => ∃ (b5_ : Int) (b6_ : Int), st = ⟨[(0, (.v (.sl (List.map GFile.c c3_)), [])), (1, (.v (.int .i64 b5_), [])), (5, (.v (.int .i64 b6_), []))], [], []⟩ ∧ plaws_szFileS_L1 k c3_ m b5_ b6_ = some out1) ?_ k ⟨_, _, rfl, h4⟩
      rintro m st ⟨b5_, b6_, rfl, h4⟩
      cases m with
      | zero => exact (onone h4).elim
      | succ m =>
        refine Wc.seq ?_
        refine Wc.seq ?_
        refine Wc.region [((none, []), none), ((none, []), none), ((some (.int .i64 (c3_.length : Int)), []), none)] [0, 1, 5, 15] [] [] ⟨[(0, (.v (.sl (List.map GFile.c c3_)), [])), (1, (.v (.int .i64 b5_), [])), (5, (.v (.int .i64 b6_), [])), (15, (.v (.bool (decide (b6_ < (c3_.length : Int)))), []))], [], []⟩ _ (by kernel_rfl) (.cons (len_obl GFile.c c3_) .nil) ?_
        rcases oif h4 with ⟨h5, h4⟩ | ⟨h5, h4⟩
        · refine Wc.condT h5 (by kernel_rfl) ?_
          refine Wc.keep [0, 1, 5] [] [] ⟨[(0, (.v (.sl (List.map GFile.c c3_)), [])), (1, (.v (.int .i64 b5_), [])), (5, (.v (.int .i64 b6_), []))], [], []⟩ (by kernel_rfl) ?_
          refine Wc.skip ?_
          refine Wc.seq ?_
          refine Wc.block ?_
          refine Wc.seq ?_
          obtain ⟨a8_, h6, h4⟩ := obind h4
          obtain ⟨b9_, h7, h4⟩ := obind h4
          refine Wc.region [((none, []), none), ((none, []), none), ((some (.vptr [.str a8_.gName, .str a8_.gText]), []), none), ((none, []), none), ((none, []), none), ((some (.int .i64 b9_), []), none)] [0, 1, 5] [] [] ⟨[(0, (.v (.sl (List.map GFile.c c3_)), [])), (1, (.v (.int .i64 b9_), [])), (5, (.v (.int .i64 b6_), []))], [], []⟩ _ (by kernel_rfl) (.cons (at_obl (c := GFile.c) (GFile.c_eq a8_) GFile.c_len h6) (.cons (len_ok 2 [.str a8_.gName, .str a8_.gText]) (.cons (claws_szFile h7) .nil))) ?_
          refine Wc.seq ?_
          refine Wc.region [] [0, 1, 5, 25] [] [] ⟨[(0, (.v (.sl (List.map GFile.c c3_)), [])), (1, (.v (.int .i64 b9_), [])), (5, (.v (.int .i64 b6_), [])), (25, (.v (.bool (decide (b9_ < 0))), []))], [], []⟩ _ (by kernel_rfl) .nil ?_
          rcases oif h4 with ⟨h8, h4⟩ | ⟨h8, h4⟩
          · refine Wc.condT h8 (by kernel_rfl) ?_
            refine Wc.seq ?_
            refine Wc.region [] [4] [] [] ⟨[(4, (.v (.int .i64 (-1)), []))], [], []⟩ _ (by kernel_rfl) .nil ?_
            refine Wc.ret ?_
            obtain rfl := Option.some.inj h4
            obtain rfl := Option.some.inj h
            exact ⟨.inl rfl, by kernel_rfl⟩
          · refine Wc.condF h8 (by kernel_rfl) ?_
            refine Wc.keep [0, 1, 5] [] [] ⟨[(0, (.v (.sl (List.map GFile.c c3_)), [])), (1, (.v (.int .i64 b9_), [])), (5, (.v (.int .i64 b6_), []))], [], []⟩ (by kernel_rfl) ?_
            refine Wc.skip ?_
            refine Wc.region [] [0, 1, 5] [] [] ⟨[(0, (.v (.sl (List.map GFile.c c3_)), [])), (1, (.v (.int .i64 b9_), [])), (5, (.v (.int .i64 (wr.i64 (b6_ + 1))), []))], [], []⟩ _ (by kernel_rfl) .nil ?_
            exact ⟨_, Nat.lt_succ_self _, _, _, rfl, h4⟩
        · refine Wc.condF h5 (by kernel_rfl) ?_
          refine Wc.keep [1] [] [] ⟨[(1, (.v (.int .i64 b5_), []))], [], []⟩ (by kernel_rfl) ?_
          refine Wc.exit ?_
          obtain rfl := Option.some.inj h4
          exact ⟨_, rfl, rfl⟩
    · rintro st ⟨b7_, rfl, rfl⟩
      refine Wc.seq ?_
      refine Wc.region [] [4] [] [] ⟨[(4, (.v (.int .i64 b7_), []))], [], []⟩ _ (by kernel_rfl) .nil ?_
      refine Wc.ret ?_
      obtain rfl := Option.some.inj h
      exact ⟨.inl rfl, by kernel_rfl⟩

def pspec_FileAt_L1 (k : Nat) (c10_ : List GFile) (d11_ : ByteArray) : Nat → Int → Option (Out (ByteArray × Bool) Unit)
  | 0, _ => none
  | m + 1, b12_ =>
    if (decide (b12_ < (c10_.length : Int))) = true then
      (at' c10_ b12_).bind fun a13_ =>
      if (sEq a13_.gName d11_) = true then
        (at' c10_ b12_).bind fun a14_ =>
        some (.ret (a14_.gText, true))
      else
        pspec_FileAt_L1 k c10_ d11_ m (wr.i64 (b12_ + 1))
    else
      some (.done ())
/-- spec.FileAt -/
def pspec_FileAt (k : Nat) (c10_ : List GFile) (d11_ : ByteArray) : Option (ByteArray × Bool) :=
  (pspec_FileAt_L1 k c10_ d11_ k 0).bind fun out1 => match out1 with
  | .ret r => some r
  | .done () =>
    some ((bs []), false)
theorem cspec_FileAt {k : Nat} {c10_ : List GFile} {d11_ : ByteArray} {r : ByteArray × Bool} (h : pspec_FileAt k c10_ d11_ = some r) : FnC Try.prog 14 [.sl (List.map GFile.c c10_), .str d11_] (.tup [.str r.1, .bool r.2]) [] := by
  refine FnC.of Try.func14 (rfl : Try.f14.body = some _) (Nat.le_of_ble_eq_true (by kernel_rfl)) ?_
  intro w0 X0
  unfold pspec_FileAt at h
  refine Wc.seq ?_
  refine Wc.region [] [0, 1] [] [] ⟨[(0, (.v (.sl (List.map GFile.c c10_)), [])), (1, (.v (.str d11_), []))], [], []⟩ _ (by kernel_rfl) .nil ?_
  refine Wc.seq ?_
  refine Wc.seq ?_
  refine Wc.region [] [0, 1, 6] [] [] ⟨[(0, (.v (.sl (List.map GFile.c c10_)), [])), (1, (.v (.str d11_), [])), (6, (.v (.int .i64 0), []))], [], []⟩ _ (by kernel_rfl) .nil ?_
  obtain ⟨out1, h9, h⟩ := obind h
  refine Wc.lastJ (fun st => out1 = .done () ∧ st = ⟨[], [], []⟩) ?_ ?_
  · refine Wc.block ?_
    refine Wc.loop (fun m st => ∃ (b12_ : Int), st = ⟨[(0, (.v (.sl (List.map GFile.c c10_)), [])), (1, (.v (.str d11_), [])), (6, (.v (.int .i64 b12_), []))], [], []⟩ ∧ pspec_FileAt_L1 k c10_ d11_ m b12_ = some out1) ?_ k ⟨_, rfl, h9⟩
    rintro m st ⟨b12_, rfl, h9⟩
    cases m with
    | zero => exact (onone h9).elim
    | succ m =>
      refine Wc.seq ?_
      refine Wc.seq ?_
      refine Wc.region [((none, []), none), ((none, []), none), ((some (.int .i64 (c10_.length : Int)), []), none)] [0, 1, 6, 10] [] [] ⟨[(0, (.v (.sl (List.map GFile.c c10_)), [])), (1, (.v (.str d11_), [])), (6, (.v (.int .i64 b12_), [])), (10, (.v (.bool (decide (b12_ < (c10_.length : Int)))), []))], [], []⟩ _ (by kernel_rfl) (.cons (len_obl GFile.c c10_) .nil) ?_
      rcases oif h9 with ⟨h10, h9⟩ | ⟨h10, h9⟩
      · refine Wc.condT h10 (by kernel_rfl) ?_
        refine Wc.keep [0, 1, 6] [] [] ⟨[(0, (.v (.sl (List.map GFile.c c10_)), [])), (1, (.v (.str d11_), [])), (6, (.v (.int .i64 b12_), []))], [], []⟩ (by kernel_rfl) ?_
        refine Wc.skip ?_
        refine Wc.seq ?_
        refine Wc.block ?_
        refine Wc.seq ?_
        obtain ⟨a13_, h11, h9⟩ := obind h9
        refine Wc.region [((none, []), none), ((none, []), none), ((some (.vptr [.str a13_.gName, .str a13_.gText]), []), none)] [0, 1, 6, 19] [] [] ⟨[(0, (.v (.sl (List.map GFile.c c10_)), [])), (1, (.v (.str d11_), [])), (6, (.v (.int .i64 b12_), [])), (19, (.v (.bool (sEq a13_.gName d11_)), []))], [], []⟩ _ (by kernel_rfl) (.cons (at_obl (c := GFile.c) (GFile.c_eq a13_) GFile.c_len h11) (.cons (len_ok 1 [.str a13_.gName, .str a13_.gText]) .nil)) ?_
        rcases oif h9 with ⟨h12, h9⟩ | ⟨h12, h9⟩
        · refine Wc.condT h12 (by kernel_rfl) ?_
          refine Wc.seq ?_
          obtain ⟨a14_, h13, h9⟩ := obind h9
          refine Wc.region [((none, []), none), ((none, []), none), ((some (.vptr [.str a14_.gName, .str a14_.gText]), []), none)] [4, 5] [] [] ⟨[(4, (.v (.str a14_.gText), [])), (5, (.v (.bool true), []))], [], []⟩ _ (by kernel_rfl) (.cons (at_obl (c := GFile.c) (GFile.c_eq a14_) GFile.c_len h13) (.cons (len_ok 1 [.str a14_.gText]) .nil)) ?_
          refine Wc.ret ?_
          obtain rfl := Option.some.inj h9
          obtain rfl := Option.some.inj h
          exact ⟨.inl rfl, by kernel_rfl⟩
        · refine Wc.condF h12 (by kernel_rfl) ?_
          refine Wc.keep [0, 1, 6] [] [] ⟨[(0, (.v (.sl (List.map GFile.c c10_)), [])), (1, (.v (.str d11_), [])), (6, (.v (.int .i64 b12_), []))], [], []⟩ (by kernel_rfl) ?_
          refine Wc.skip ?_
          refine Wc.region [] [0, 1, 6] [] [] ⟨[(0, (.v (.sl (List.map GFile.c c10_)), [])), (1, (.v (.str d11_), [])), (6, (.v (.int .i64 (wr.i64 (b12_ + 1))), []))], [], []⟩ _ (by kernel_rfl) .nil ?_
          exact ⟨_, Nat.lt_succ_self _, _, rfl, h9⟩
      · refine Wc.condF h10 (by kernel_rfl) ?_
        refine Wc.keep [] [] [] ⟨[], [], []⟩ (by kernel_rfl) ?_
        refine Wc.exit ?_
        obtain rfl := Option.some.inj h9
        exact ⟨rfl, rfl⟩
  · rintro st ⟨rfl, rfl⟩
    refine Wc.seq ?_
    refine Wc.region [] [4, 5] [] [] ⟨[(4, (.v (.str (bs [])), [])), (5, (.v (.bool false), []))], [], []⟩ _ (by kernel_rfl) .nil ?_
    refine Wc.ret ?_
    obtain rfl := Option.some.inj h
    exact ⟨.inl rfl, by kernel_rfl⟩

/-- laws.toFile -/
def plaws_toFile (k : Nat) (a15_ : GFile) : Option GFile :=
  some a15_
theorem claws_toFile {k : Nat} {a15_ : GFile} {r : GFile} (h : plaws_toFile k a15_ = some r) : FnC Try.prog 41 [.agg [.str a15_.gName, .str a15_.gText]] (.agg [.str r.gName, .str r.gText]) [] := by
  refine FnC.of Try.func41 (rfl : Try.f41.body = some _) (Nat.le_of_ble_eq_true (by kernel_rfl)) ?_
  intro w0 X0
  unfold plaws_toFile at h
  refine Wc.seq ?_
  refine Wc.region [] [1, 2] [1, 2] [] ⟨[(1, (.ptr 1 0, [])), (2, (.ptr 2 0, []))], [(1, ([.str a15_.gName, .str a15_.gText], [])), (2, ([.str (bs []), .str (bs [])], []))], []⟩ _ (by kernel_rfl) .nil ?_
  refine Wc.seq ?_
  refine Wc.region [] [1, 2, 3] [1, 2, 3] [] ⟨[(1, (.ptr 1 0, [])), (2, (.ptr 2 0, [])), (3, (.ptr 3 0, []))], [(1, ([.str a15_.gName, .str a15_.gText], [])), (2, ([.str (bs []), .str (bs [])], [])), (3, ([.str (bs []), .str (bs [])], []))], []⟩ _ (by kernel_rfl) .nil ?_
  refine Wc.seq ?_
  refine Wc.region [] [1, 2, 3] [1, 2, 3] [] ⟨[(1, (.ptr 1 0, [])), (2, (.ptr 2 0, [])), (3, (.ptr 3 0, []))], [(1, ([.str a15_.gName, .str a15_.gText], [])), (2, ([.str (bs []), .str (bs [])], [])), (3, ([.str a15_.gName, .str (bs [])], []))], []⟩ _ (by kernel_rfl) .nil ?_
  refine Wc.seq ?_
  refine Wc.region [] [2, 3] [2, 3] [] ⟨[(2, (.ptr 2 0, [])), (3, (.ptr 3 0, []))], [(2, ([.str (bs []), .str (bs [])], [])), (3, ([.str a15_.gName, .str a15_.gText], []))], []⟩ _ (by kernel_rfl) .nil ?_
  refine Wc.seq ?_
  refine Wc.region [] [2] [2] [] ⟨[(2, (.ptr 2 0, []))], [(2, ([.str a15_.gName, .str a15_.gText], []))], []⟩ _ (by kernel_rfl) .nil ?_
  refine Wc.ret ?_
  obtain rfl := Option.some.inj h
  exact ⟨.inl rfl, by kernel_rfl⟩

def plaws_toFileS_L1 (k : Nat) (c16_ : List GFile) : Nat → Int → (List GFile) → Option (Out (List GFile) (List GFile))
  | 0, _, _ => none
  | m + 1, b17_, c18_ =>
    if (decide (b17_ < (c16_.length : Int))) = true then
      (at' c16_ b17_).bind fun a20_ =>
      (plaws_toFile k a20_).bind fun a21_ =>
      if 0 ≤ b17_ ∧ (b17_).toNat < c18_.length then
        plaws_toFileS_L1 k c16_ m (wr.i64 (b17_ + 1)) (c18_.set ((b17_).toNat) a21_)
      else none
    else
      some (.done c18_)
/-- laws.toFileS -/
def plaws_toFileS (k : Nat) (c16_ : List GFile) : Option (List GFile) :=
  if 0 ≤ (c16_.length : Int) ∧ (c16_.length : Int) ≤ 1073741824 then
    (plaws_toFileS_L1 k c16_ k 0 (List.replicate ((c16_.length : Int)).toNat (GFile.mk (bs []) (bs [])))).bind fun out1 => match out1 with
    | .ret r => some r
    | .done c19_ =>
      some c19_
  else none
theorem claws_toFileS {k : Nat} {c16_ : List GFile} {r : List GFile} (h : plaws_toFileS k c16_ = some r) : FnC Try.prog 15 [.sl (List.map GFile.c c16_)] (.sl (List.map GFile.c r)) [] := by
  refine FnC.of Try.func15 (rfl : Try.f15.body = some _) (Nat.le_of_ble_eq_true (by kernel_rfl)) ?_
  intro w0 X0
  unfold plaws_toFileS at h
  refine Wc.seq ?_
  refine Wc.region [((none, []), some (.sl (List.map GFile.c [])))] [0] [] [] ⟨[(0, (.v (.sl (List.map GFile.c c16_)), []))], [], []⟩ _ (by kernel_rfl) (.cons (nil_re GFile.c) .nil) ?_
  refine Wc.seq ?_
  obtain ⟨h14, h⟩ := oguard h
  refine Wc.region [((none, []), none), ((some (.int .i64 (c16_.length : Int)), []), none)] [0, 3] [] [7] ⟨[(0, (.v (.sl (List.map GFile.c c16_)), [])), (3, (.arr 7, []))], [], [(7, (2, List.replicate ((c16_.length : Int)).toNat [.str (bs []), .str (bs [])]))]⟩ _ (by kernel_rfl) (.cons (len_obl GFile.c c16_) (.cons (ms_obl h14) .nil)) ?_
  refine Wc.re (congrArg (St.mk _ _) ((rc_re (rep_re (c := GFile.c) (GFile.c_eq (GFile.mk (bs []) (bs []))) _) rfl) : _ = [(7, (2, List.map GFile.c (List.replicate ((c16_.length : Int)).toNat (GFile.mk (bs []) (bs [])))))])) ?_
  refine Wc.seq ?_
  refine Wc.seq ?_
  refine Wc.region [] [0, 3, 4] [] [7] ⟨[(0, (.v (.sl (List.map GFile.c c16_)), [])), (3, (.arr 7, [])), (4, (.v (.int .i64 0), []))], [], [(7, (2, List.map GFile.c (List.replicate ((c16_.length : Int)).toNat (GFile.mk (bs []) (bs [])))))]⟩ _ (by kernel_rfl) .nil ?_
  obtain ⟨out1, h15, h⟩ := obind h
  refine Wc.lastJ (fun st => ∃ (c19_ : List GFile), out1 = .done c19_ ∧ st = ⟨[(3, (.arr 7, []))], [], [(7, (2, List.map GFile.c c19_))]⟩) ?_ ?_
  · refine Wc.block ?_
    refine Wc.loop (fun m st => ∃ (b17_ : Int) (c18_ : List GFile), st = ⟨[(0, (.v (.sl (List.map GFile.c c16_)), [])), (3, (.arr 7, [])), (4, (.v (.int .i64 b17_), []))], [], [(7, (2, List.map GFile.c c18_))]⟩ ∧ plaws_toFileS_L1 k c16_ m b17_ c18_ = some out1) ?_ k ⟨_, _, rfl, h15⟩
    rintro m st ⟨b17_, c18_, rfl, h15⟩
    cases m with
    | zero => exact (onone h15).elim
    | succ m =>
      refine Wc.seq ?_
      refine Wc.seq ?_
      refine Wc.region [((none, []), none), ((none, []), none), ((some (.int .i64 (c16_.length : Int)), []), none)] [0, 3, 4, 11] [] [7] ⟨[(0, (.v (.sl (List.map GFile.c c16_)), [])), (3, (.arr 7, [])), (4, (.v (.int .i64 b17_), [])), (11, (.v (.bool (decide (b17_ < (c16_.length : Int)))), []))], [], [(7, (2, List.map GFile.c c18_))]⟩ _ (by kernel_rfl) (.cons (len_obl GFile.c c16_) .nil) ?_
      rcases oif h15 with ⟨h16, h15⟩ | ⟨h16, h15⟩
      · refine Wc.condT h16 (by kernel_rfl) ?_
        refine Wc.keep [0, 3, 4] [] [7] ⟨[(0, (.v (.sl (List.map GFile.c c16_)), [])), (3, (.arr 7, [])), (4, (.v (.int .i64 b17_), []))], [], [(7, (2, List.map GFile.c c18_))]⟩ (by kernel_rfl) ?_
        refine Wc.skip ?_
        refine Wc.seq ?_
        refine Wc.block ?_
        obtain ⟨a20_, h17, h15⟩ := obind h15
        obtain ⟨a21_, h18, h15⟩ := obind h15
        obtain ⟨h19, h15⟩ := oguard h15
        refine Wc.region [((none, []), none), ((none, []), none), ((none, []), none), ((none, []), none), ((some (.vptr [.str a20_.gName, .str a20_.gText]), []), none), ((none, []), none), ((some (.agg [.str a21_.gName, .str a21_.gText]), []), none)] [0, 3, 4] [] [7] ⟨[(0, (.v (.sl (List.map GFile.c c16_)), [])), (3, (.arr 7, [])), (4, (.v (.int .i64 b17_), []))], [], [(7, (2, (List.map GFile.c c18_).modify ((b17_).toNat) (fun c => setAll c 0 [.str a21_.gName, .str a21_.gText])))]⟩ _ (by kernel_rfl) (.cons (at_obl (c := GFile.c) (GFile.c_eq a20_) GFile.c_len h17) (.cons (len_ok 2 [.str a20_.gName, .str a20_.gText]) (.cons (claws_toFile h18) (.cons (arr_obl (c := GFile.c) h19) (.cons (arr_obl (c := GFile.c) h19).2 .nil))))) ?_
        refine Wc.re (congrArg (St.mk _ _) ((rc_re (mod_re (c := GFile.c) (GFile.c_eq a21_) GFile.c_len _ _) rfl) : _ = [(7, (2, List.map GFile.c (c18_.set ((b17_).toNat) a21_)))])) ?_
        refine Wc.region [] [0, 3, 4] [] [7] ⟨[(0, (.v (.sl (List.map GFile.c c16_)), [])), (3, (.arr 7, [])), (4, (.v (.int .i64 (wr.i64 (b17_ + 1))), []))], [], [(7, (2, List.map GFile.c (c18_.set ((b17_).toNat) a21_)))]⟩ _ (by kernel_rfl) .nil ?_
        exact ⟨_, Nat.lt_succ_self _, _, _, rfl, h15⟩
      · refine Wc.condF h16 (by kernel_rfl) ?_
        refine Wc.keep [3] [] [7] ⟨[(3, (.arr 7, []))], [], [(7, (2, List.map GFile.c c18_))]⟩ (by kernel_rfl) ?_
        refine Wc.exit ?_
        obtain rfl := Option.some.inj h15
        exact ⟨_, rfl, rfl⟩
  · rintro st ⟨c19_, rfl, rfl⟩
    refine Wc.seq ?_
    refine Wc.region [] [2] [] [7] ⟨[(2, (.arr 7, []))], [], [(7, (2, List.map GFile.c c19_))]⟩ _ (by kernel_rfl) .nil ?_
    refine Wc.ret ?_
    obtain rfl := Option.some.inj h
    exact ⟨.inl rfl, by kernel_rfl⟩

def pimpl_FileAt_L1 (k : Nat) (c22_ : List GFile) (d23_ : ByteArray) : Nat → Int → Option (Out (ByteArray × Bool) Unit)
  | 0, _ => none
  | m + 1, b24_ =>
    if (decide (b24_ < (c22_.length : Int))) = true then
      (at' c22_ b24_).bind fun a25_ =>
      if (sEq a25_.gName d23_) = true then
        some (.ret (a25_.gText, true))
      else
        pimpl_FileAt_L1 k c22_ d23_ m (wr.i64 (b24_ + 1))
    else
      some (.done ())
/-- impl.FileAt -/
def pimpl_FileAt (k : Nat) (c22_ : List GFile) (d23_ : ByteArray) : Option (ByteArray × Bool) :=
  (pimpl_FileAt_L1 k c22_ d23_ k 0).bind fun out1 => match out1 with
  | .ret r => some r
  | .done () =>
    some ((bs []), false)
theorem cimpl_FileAt {k : Nat} {c22_ : List GFile} {d23_ : ByteArray} {r : ByteArray × Bool} (h : pimpl_FileAt k c22_ d23_ = some r) : FnC Try.prog 16 [.sl (List.map GFile.c c22_), .str d23_] (.tup [.str r.1, .bool r.2]) [] := by
  refine FnC.of Try.func16 (rfl : Try.f16.body = some _) (Nat.le_of_ble_eq_true (by kernel_rfl)) ?_
  intro w0 X0
  unfold pimpl_FileAt at h
  refine Wc.seq ?_
  refine Wc.region [] [0, 1] [] [] ⟨[(0, (.v (.sl (List.map GFile.c c22_)), [])), (1, (.v (.str d23_), []))], [], []⟩ _ (by kernel_rfl) .nil ?_
  refine Wc.seq ?_
  refine Wc.seq ?_
  refine Wc.region [((none, []), none), ((some (.int .i64 (c22_.length : Int)), []), none)] [1, 8, 9, 10] [] [] ⟨[(1, (.v (.str d23_), [])), (8, (.v (.sl (List.map GFile.c c22_)), [])), (9, (.v (.int .i64 (c22_.length : Int)), [])), (10, (.v (.int .i64 0), []))], [], []⟩ _ (by kernel_rfl) (.cons (len_obl GFile.c c22_) .nil) ?_
  obtain ⟨out1, h20, h⟩ := obind h
  refine Wc.lastJ (fun st => out1 = .done () ∧ st = ⟨[], [], []⟩) ?_ ?_
  · refine Wc.block ?_
    refine Wc.loop (fun m st => ∃ (b24_ : Int), st = ⟨[(1, (.v (.str d23_), [])), (8, (.v (.sl (List.map GFile.c c22_)), [])), (9, (.v (.int .i64 (c22_.length : Int)), [])), (10, (.v (.int .i64 b24_), []))], [], []⟩ ∧ pimpl_FileAt_L1 k c22_ d23_ m b24_ = some out1) ?_ k ⟨_, rfl, h20⟩
    rintro m st ⟨b24_, rfl, h20⟩
    cases m with
    | zero => exact (onone h20).elim
    | succ m =>
      refine Wc.seq ?_
      refine Wc.region [] [1, 8, 9, 10, 11] [] [] ⟨[(1, (.v (.str d23_), [])), (8, (.v (.sl (List.map GFile.c c22_)), [])), (9, (.v (.int .i64 (c22_.length : Int)), [])), (10, (.v (.int .i64 b24_), [])), (11, (.v (.bool (decide (b24_ < (c22_.length : Int)))), []))], [], []⟩ _ (by kernel_rfl) .nil ?_
      refine Wc.seq ?_
      rcases oif h20 with ⟨h21, h20⟩ | ⟨h21, h20⟩
      · refine Wc.condT h21 (by kernel_rfl) ?_
        refine Wc.keep [1, 8, 9, 10] [] [] ⟨[(1, (.v (.str d23_), [])), (8, (.v (.sl (List.map GFile.c c22_)), [])), (9, (.v (.int .i64 (c22_.length : Int)), [])), (10, (.v (.int .i64 b24_), []))], [], []⟩ (by kernel_rfl) ?_
        refine Wc.skip ?_
        refine Wc.seq ?_
        refine Wc.block ?_
        refine Wc.seq ?_
        obtain ⟨a25_, h22, h20⟩ := obind h20
        refine Wc.region [((some (.vptr [.str a25_.gName, .str a25_.gText]), []), none)] [1, 7, 8, 9, 10] [7] [] ⟨[(1, (.v (.str d23_), [])), (7, (.ptr 7 0, [])), (8, (.v (.sl (List.map GFile.c c22_)), [])), (9, (.v (.int .i64 (c22_.length : Int)), [])), (10, (.v (.int .i64 b24_), []))], [(7, ([.str a25_.gName, .str a25_.gText], []))], []⟩ _ (by kernel_rfl) (.cons (at_obl (c := GFile.c) (GFile.c_eq a25_) GFile.c_len h22) (.cons (len_ok 2 [.str a25_.gName, .str a25_.gText]) .nil)) ?_
        refine Wc.seq ?_
        refine Wc.region [] [1, 7, 8, 9, 10, 17] [7] [] ⟨[(1, (.v (.str d23_), [])), (7, (.ptr 7 0, [])), (8, (.v (.sl (List.map GFile.c c22_)), [])), (9, (.v (.int .i64 (c22_.length : Int)), [])), (10, (.v (.int .i64 b24_), [])), (17, (.v (.bool (sEq a25_.gName d23_)), []))], [(7, ([.str a25_.gName, .str a25_.gText], []))], []⟩ _ (by kernel_rfl) .nil ?_
        rcases oif h20 with ⟨h23, h20⟩ | ⟨h23, h20⟩
        · refine Wc.condT h23 (by kernel_rfl) ?_
          refine Wc.seq ?_
          refine Wc.region [] [4, 5] [] [] ⟨[(4, (.v (.str a25_.gText), [])), (5, (.v (.bool true), []))], [], []⟩ _ (by kernel_rfl) .nil ?_
          refine Wc.ret ?_
          obtain rfl := Option.some.inj h20
          obtain rfl := Option.some.inj h
          exact ⟨.inl rfl, by kernel_rfl⟩
        · refine Wc.condF h23 (by kernel_rfl) ?_
          refine Wc.keep [1, 8, 9, 10] [] [] ⟨[(1, (.v (.str d23_), [])), (8, (.v (.sl (List.map GFile.c c22_)), [])), (9, (.v (.int .i64 (c22_.length : Int)), [])), (10, (.v (.int .i64 b24_), []))], [], []⟩ (by kernel_rfl) ?_
          refine Wc.skip ?_
          refine Wc.region [] [1, 8, 9, 10] [] [] ⟨[(1, (.v (.str d23_), [])), (8, (.v (.sl (List.map GFile.c c22_)), [])), (9, (.v (.int .i64 (c22_.length : Int)), [])), (10, (.v (.int .i64 (wr.i64 (b24_ + 1))), []))], [], []⟩ _ (by kernel_rfl) .nil ?_
          exact ⟨_, Nat.lt_succ_self _, _, rfl, h20⟩
      · refine Wc.condF h21 (by kernel_rfl) ?_
        refine Wc.keep [] [] [] ⟨[], [], []⟩ (by kernel_rfl) ?_
        refine Wc.exit ?_
        obtain rfl := Option.some.inj h20
        exact ⟨rfl, rfl⟩
  · rintro st ⟨rfl, rfl⟩
    refine Wc.seq ?_
    refine Wc.region [] [4, 5] [] [] ⟨[(4, (.v (.str (bs [])), [])), (5, (.v (.bool false), []))], [], []⟩ _ (by kernel_rfl) .nil ?_
    refine Wc.ret ?_
    obtain rfl := Option.some.inj h
    exact ⟨.inl rfl, by kernel_rfl⟩

/-- laws.eqFile -/
def plaws_eqFile (k : Nat) (a26_ : GFile) (a27_ : GFile) : Option Bool :=
  if (!(sEq a26_.gName a27_.gName)) = true then
    some false
  else
    if (!(sEq a26_.gText a27_.gText)) = true then
      some false
    else
      some true
theorem claws_eqFile {k : Nat} {a26_ : GFile} {a27_ : GFile} {r : Bool} (h : plaws_eqFile k a26_ a27_ = some r) : FnC Try.prog 42 [.agg [.str a26_.gName, .str a26_.gText], .agg [.str a27_.gName, .str a27_.gText]] (.bool r) [] := by
  refine FnC.of Try.func42 (rfl : Try.f42.body = some _) (Nat.le_of_ble_eq_true (by kernel_rfl)) ?_
  intro w0 X0
  unfold plaws_eqFile at h
  refine Wc.seq ?_
  refine Wc.region [] [2, 3] [2, 3] [] ⟨[(2, (.ptr 2 0, [])), (3, (.ptr 3 0, []))], [(2, ([.str a26_.gName, .str a26_.gText], [])), (3, ([.str a27_.gName, .str a27_.gText], []))], []⟩ _ (by kernel_rfl) .nil ?_
  refine Wc.seq ?_
  refine Wc.seq ?_
  refine Wc.region [] [2, 3, 9] [2, 3] [] ⟨[(2, (.ptr 2 0, [])), (3, (.ptr 3 0, [])), (9, (.v (.bool (!(sEq a26_.gName a27_.gName))), []))], [(2, ([.str a26_.gName, .str a26_.gText], [])), (3, ([.str a27_.gName, .str a27_.gText], []))], []⟩ _ (by kernel_rfl) .nil ?_
  rcases oif h with ⟨h24, h⟩ | ⟨h24, h⟩
  · refine Wc.condT h24 (by kernel_rfl) ?_
    refine Wc.seq ?_
    refine Wc.region [] [4] [] [] ⟨[(4, (.v (.bool false), []))], [], []⟩ _ (by kernel_rfl) .nil ?_
    refine Wc.ret ?_
    obtain rfl := Option.some.inj h
    exact ⟨.inl rfl, by kernel_rfl⟩
  · refine Wc.condF h24 (by kernel_rfl) ?_
    refine Wc.keep [2, 3] [2, 3] [] ⟨[(2, (.ptr 2 0, [])), (3, (.ptr 3 0, []))], [(2, ([.str a26_.gName, .str a26_.gText], [])), (3, ([.str a27_.gName, .str a27_.gText], []))], []⟩ (by kernel_rfl) ?_
    refine Wc.skip ?_
    refine Wc.seq ?_
    refine Wc.seq ?_
    refine Wc.region [] [14] [] [] ⟨[(14, (.v (.bool (!(sEq a26_.gText a27_.gText))), []))], [], []⟩ _ (by kernel_rfl) .nil ?_
    rcases oif h with ⟨h25, h⟩ | ⟨h25, h⟩
    · refine Wc.condT h25 (by kernel_rfl) ?_
      refine Wc.seq ?_
      refine Wc.region [] [4] [] [] ⟨[(4, (.v (.bool false), []))], [], []⟩ _ (by kernel_rfl) .nil ?_
      refine Wc.ret ?_
      obtain rfl := Option.some.inj h
      exact ⟨.inl rfl, by kernel_rfl⟩
    · refine Wc.condF h25 (by kernel_rfl) ?_
      refine Wc.keep [] [] [] ⟨[], [], []⟩ (by kernel_rfl) ?_
      refine Wc.skip ?_
      refine Wc.seq ?_
      refine Wc.region [] [4] [] [] ⟨[(4, (.v (.bool true), []))], [], []⟩ _ (by kernel_rfl) .nil ?_
      refine Wc.ret ?_
      obtain rfl := Option.some.inj h
      exact ⟨.inl rfl, by kernel_rfl⟩

def plaws_eqFileS_L1 (k : Nat) (c28_ : List GFile) (c29_ : List GFile) : Nat → Int → Option (Out Bool Unit)
  | 0, _ => none
  | m + 1, b30_ =>
    if (decide (b30_ < (c28_.length : Int))) = true then
      (at' c28_ b30_).bind fun a31_ =>
      (at' c29_ b30_).bind fun a32_ =>
      (plaws_eqFile k a31_ a32_).bind fun e33_ =>
      if (!e33_) = true then
        some (.ret false)
      else
        plaws_eqFileS_L1 k c28_ c29_ m (wr.i64 (b30_ + 1))
    else
      some (.done ())
/-- laws.eqFileS -/
def plaws_eqFileS (k : Nat) (c28_ : List GFile) (c29_ : List GFile) : Option Bool :=
  if ((c28_.length : Int) != (c29_.length : Int)) = true then
    some false
  else
    (plaws_eqFileS_L1 k c28_ c29_ k 0).bind fun out1 => match out1 with
    | .ret r => some r
    | .done () =>
      some true
theorem claws_eqFileS {k : Nat} {c28_ : List GFile} {c29_ : List GFile} {r : Bool} (h : plaws_eqFileS k c28_ c29_ = some r) : FnC Try.prog 17 [.sl (List.map GFile.c c28_), .sl (List.map GFile.c c29_)] (.bool r) [] := by
  refine FnC.of Try.func17 (rfl : Try.f17.body = some _) (Nat.le_of_ble_eq_true (by kernel_rfl)) ?_
  intro w0 X0
  unfold plaws_eqFileS at h
  refine Wc.seq ?_
  refine Wc.region [] [0, 1] [] [] ⟨[(0, (.v (.sl (List.map GFile.c c28_)), [])), (1, (.v (.sl (List.map GFile.c c29_)), []))], [], []⟩ _ (by kernel_rfl) .nil ?_
  refine Wc.seq ?_
  refine Wc.seq ?_
  refine Wc.region [((none, []), none), ((some (.int .i64 (c28_.length : Int)), []), none), ((none, []), none), ((some (.int .i64 (c29_.length : Int)), []), none)] [0, 1, 10] [] [] ⟨[(0, (.v (.sl (List.map GFile.c c28_)), [])), (1, (.v (.sl (List.map GFile.c c29_)), [])), (10, (.v (.bool ((c28_.length : Int) != (c29_.length : Int))), []))], [], []⟩ _ (by kernel_rfl) (.cons (len_obl GFile.c c28_) (.cons (len_obl GFile.c c29_) .nil)) ?_
  rcases oif h with ⟨h26, h⟩ | ⟨h26, h⟩
  · refine Wc.condT h26 (by kernel_rfl) ?_
    refine Wc.seq ?_
    refine Wc.region [] [4] [] [] ⟨[(4, (.v (.bool false), []))], [], []⟩ _ (by kernel_rfl) .nil ?_
    refine Wc.ret ?_
    obtain rfl := Option.some.inj h
    exact ⟨.inl rfl, by kernel_rfl⟩
  · refine Wc.condF h26 (by kernel_rfl) ?_
    refine Wc.keep [0, 1] [] [] ⟨[(0, (.v (.sl (List.map GFile.c c28_)), [])), (1, (.v (.sl (List.map GFile.c c29_)), []))], [], []⟩ (by kernel_rfl) ?_
    refine Wc.skip ?_
    refine Wc.seq ?_
    refine Wc.seq ?_
    refine Wc.region [] [0, 1, 5] [] [] ⟨[(0, (.v (.sl (List.map GFile.c c28_)), [])), (1, (.v (.sl (List.map GFile.c c29_)), [])), (5, (.v (.int .i64 0), []))], [], []⟩ _ (by kernel_rfl) .nil ?_
    obtain ⟨out1, h27, h⟩ := obind h
    refine Wc.lastJ (fun st => out1 = .done () ∧ st = ⟨[], [], []⟩) ?_ ?_
    · refine Wc.block ?_
      refine Wc.loop (fun m st => ∃ (b30_ : Int), st = ⟨[(0, (.v (.sl (List.map GFile.c c28_)), [])), (1, (.v (.sl (List.map GFile.c c29_)), [])), (5, (.v (.int .i64 b30_), []))], [], []⟩ ∧ plaws_eqFileS_L1 k c28_ c29_ m b30_ = some out1) ?_ k ⟨_, rfl, h27⟩
      rintro m st ⟨b30_, rfl, h27⟩
      cases m with
      | zero => exact (onone h27).elim
      | succ m =>
        refine Wc.seq ?_
        refine Wc.seq ?_
        refine Wc.region [((none, []), none), ((none, []), none), ((some (.int .i64 (c28_.length : Int)), []), none)] [0, 1, 5, 14] [] [] ⟨[(0, (.v (.sl (List.map GFile.c c28_)), [])), (1, (.v (.sl (List.map GFile.c c29_)), [])), (5, (.v (.int .i64 b30_), [])), (14, (.v (.bool (decide (b30_ < (c28_.length : Int)))), []))], [], []⟩ _ (by kernel_rfl) (.cons (len_obl GFile.c c28_) .nil) ?_
        rcases oif h27 with ⟨h28, h27⟩ | ⟨h28, h27⟩
        · refine Wc.condT h28 (by kernel_rfl) ?_
          refine Wc.keep [0, 1, 5] [] [] ⟨[(0, (.v (.sl (List.map GFile.c c28_)), [])), (1, (.v (.sl (List.map GFile.c c29_)), [])), (5, (.v (.int .i64 b30_), []))], [], []⟩ (by kernel_rfl) ?_
          refine Wc.skip ?_
          refine Wc.seq ?_
          refine Wc.block ?_
          refine Wc.seq ?_
          obtain ⟨a31_, h29, h27⟩ := obind h27
          obtain ⟨a32_, h30, h27⟩ := obind h27
          obtain ⟨e33_, h31, h27⟩ := obind h27
          refine Wc.draw hmix [((none, []), none), ((none, []), none), ((some (.vptr [.str a31_.gName, .str a31_.gText]), []), none), ((none, []), none), ((none, []), none), ((none, []), none), ((some (.vptr [.str a32_.gName, .str a32_.gText]), []), none), ((none, []), none), ((some (.bool e33_), []), none)] [0, 1, 5, 26] [] [] ⟨[(0, (.v (.sl (List.map GFile.c c28_)), [])), (1, (.v (.sl (List.map GFile.c c29_)), [])), (5, (.v (.int .i64 b30_), [])), (26, (.v (.bool (!e33_)), []))], [], []⟩ _ (by kernel_rfl) (.cons (at_obl (c := GFile.c) (GFile.c_eq a31_) GFile.c_len h29) (.cons (len_ok 2 [.str a31_.gName, .str a31_.gText]) (.cons (at_obl (c := GFile.c) (GFile.c_eq a32_) GFile.c_len h30) (.cons (len_ok 2 [.str a32_.gName, .str a32_.gText]) (.cons (claws_eqFile h31) .nil))))) ?_
          rcases oif h27 with ⟨h32, h27⟩ | ⟨h32, h27⟩
          · refine Wc.condT h32 (by kernel_rfl) ?_
            refine Wc.seq ?_
            refine Wc.region [] [4] [] [] ⟨[(4, (.v (.bool false), []))], [], []⟩ _ (by kernel_rfl) .nil ?_
            refine Wc.ret ?_
            obtain rfl := Option.some.inj h27
            obtain rfl := Option.some.inj h
            exact ⟨.inl rfl, by kernel_rfl⟩
          · refine Wc.condF h32 (by kernel_rfl) ?_
            refine Wc.keep [0, 1, 5] [] [] ⟨[(0, (.v (.sl (List.map GFile.c c28_)), [])), (1, (.v (.sl (List.map GFile.c c29_)), [])), (5, (.v (.int .i64 b30_), []))], [], []⟩ (by kernel_rfl) ?_
            refine Wc.skip ?_
            refine Wc.region [] [0, 1, 5] [] [] ⟨[(0, (.v (.sl (List.map GFile.c c28_)), [])), (1, (.v (.sl (List.map GFile.c c29_)), [])), (5, (.v (.int .i64 (wr.i64 (b30_ + 1))), []))], [], []⟩ _ (by kernel_rfl) .nil ?_
            exact ⟨_, Nat.lt_succ_self _, _, rfl, h27⟩
        · refine Wc.condF h28 (by kernel_rfl) ?_
          refine Wc.keep [] [] [] ⟨[], [], []⟩ (by kernel_rfl) ?_
          refine Wc.exit ?_
          obtain rfl := Option.some.inj h27
          exact ⟨rfl, rfl⟩
    · rintro st ⟨rfl, rfl⟩
      refine Wc.seq ?_
      refine Wc.region [] [4] [] [] ⟨[(4, (.v (.bool true), []))], [], []⟩ _ (by kernel_rfl) .nil ?_
      refine Wc.ret ?_
      obtain rfl := Option.some.inj h
      exact ⟨.inl rfl, by kernel_rfl⟩

/-- laws.FnExactFileAt -/
def plaws_FnExactFileAt (k : Nat) (c34_ : List GFile) (d35_ : ByteArray) : Option Bool :=
  if (decide ((d35_.size : Int) > 1048576)) = true then
    some true
  else
    (plaws_szFileS k c34_ 1048576).bind fun b36_ =>
    if (decide (b36_ < 0)) = true then
      some true
    else
      (plaws_toFileS k c34_).bind fun c37_ =>
      (pspec_FileAt k c37_ d35_).bind fun f38_ =>
      (plaws_toFileS k c34_).bind fun c39_ =>
      (pimpl_FileAt k c39_ d35_).bind fun f40_ =>
      if (!(sEq f40_.1 f38_.1)) = true then
        some false
      else
        if (!(f40_.2 == f38_.2)) = true then
          some false
        else
          (plaws_toFileS k c34_).bind fun c41_ =>
          (plaws_eqFileS k c39_ c41_).bind fun e42_ =>
          if (!e42_) = true then
            some false
          else
            some true
theorem claws_FnExactFileAt {k : Nat} {c34_ : List GFile} {d35_ : ByteArray} {r : Bool} (h : plaws_FnExactFileAt k c34_ d35_ = some r) : FnC Try.prog 4 [.sl (List.map GFile.c c34_), .str d35_] (.bool r) [] := by
  refine FnC.of Try.func4 (rfl : Try.f4.body = some _) (Nat.le_of_ble_eq_true (by kernel_rfl)) ?_
  intro w0 X0
  unfold plaws_FnExactFileAt at h
  refine Wc.seq ?_
  refine Wc.region [] [0, 1] [] [] ⟨[(0, (.v (.sl (List.map GFile.c c34_)), [])), (1, (.v (.str d35_), []))], [], []⟩ _ (by kernel_rfl) .nil ?_
  refine Wc.seq ?_
  refine Wc.seq ?_
  refine Wc.region [] [0, 1, 13] [] [] ⟨[(0, (.v (.sl (List.map GFile.c c34_)), [])), (1, (.v (.str d35_), [])), (13, (.v (.bool (decide ((d35_.size : Int) > 1048576))), []))], [], []⟩ _ (by kernel_rfl) .nil ?_
  rcases oif h with ⟨h33, h⟩ | ⟨h33, h⟩
  · refine Wc.condT h33 (by kernel_rfl) ?_
    refine Wc.seq ?_
    refine Wc.region [] [4] [] [] ⟨[(4, (.v (.bool true), []))], [], []⟩ _ (by kernel_rfl) .nil ?_
    refine Wc.ret ?_
    obtain rfl := Option.some.inj h
    exact ⟨.inl rfl, by kernel_rfl⟩
  · refine Wc.condF h33 (by kernel_rfl) ?_
    refine Wc.keep [0, 1] [] [] ⟨[(0, (.v (.sl (List.map GFile.c c34_)), [])), (1, (.v (.str d35_), []))], [], []⟩ (by kernel_rfl) ?_
    refine Wc.skip ?_
    refine Wc.seq ?_
    refine Wc.region [] [0, 1, 5] [] [] ⟨[(0, (.v (.sl (List.map GFile.c c34_)), [])), (1, (.v (.str d35_), [])), (5, (.v (.int .i64 1048576), []))], [], []⟩ _ (by kernel_rfl) .nil ?_
    refine Wc.seq ?_
    obtain ⟨b36_, h34, h⟩ := obind h
    refine Wc.region [((none, []), none), ((none, []), none), ((some (.int .i64 b36_), []), none)] [0, 1, 5] [] [] ⟨[(0, (.v (.sl (List.map GFile.c c34_)), [])), (1, (.v (.str d35_), [])), (5, (.v (.int .i64 b36_), []))], [], []⟩ _ (by kernel_rfl) (.cons (claws_szFileS h34) .nil) ?_
    refine Wc.seq ?_
    refine Wc.seq ?_
    refine Wc.region [] [0, 1, 18] [] [] ⟨[(0, (.v (.sl (List.map GFile.c c34_)), [])), (1, (.v (.str d35_), [])), (18, (.v (.bool (decide (b36_ < 0))), []))], [], []⟩ _ (by kernel_rfl) .nil ?_
    rcases oif h with ⟨h35, h⟩ | ⟨h35, h⟩
    · refine Wc.condT h35 (by kernel_rfl) ?_
      refine Wc.seq ?_
      refine Wc.region [] [4] [] [] ⟨[(4, (.v (.bool true), []))], [], []⟩ _ (by kernel_rfl) .nil ?_
      refine Wc.ret ?_
      obtain rfl := Option.some.inj h
      exact ⟨.inl rfl, by kernel_rfl⟩
    · refine Wc.condF h35 (by kernel_rfl) ?_
      refine Wc.keep [0, 1] [] [] ⟨[(0, (.v (.sl (List.map GFile.c c34_)), [])), (1, (.v (.str d35_), []))], [], []⟩ (by kernel_rfl) ?_
      refine Wc.skip ?_
      refine Wc.seq ?_
      obtain ⟨c37_, h36, h⟩ := obind h
      obtain ⟨f38_, h37, h⟩ := obind h
      refine Wc.region [((none, []), none), ((some (.sl (List.map GFile.c c37_)), []), none), ((none, []), none), ((some (.tup [.str f38_.1, .bool f38_.2]), []), none)] [0, 1, 6, 7] [] [] ⟨[(0, (.v (.sl (List.map GFile.c c34_)), [])), (1, (.v (.str d35_), [])), (6, (.v (.str f38_.1), [])), (7, (.v (.bool f38_.2), []))], [], []⟩ _ (by kernel_rfl) (.cons (claws_toFileS h36) (.cons (cspec_FileAt h37) .nil)) ?_
      refine Wc.seq ?_
      obtain ⟨c39_, h38, h⟩ := obind h
      refine Wc.region [((none, []), none), ((some (.sl (List.map GFile.c c39_)), []), none)] [0, 1, 6, 7, 8] [] [] ⟨[(0, (.v (.sl (List.map GFile.c c34_)), [])), (1, (.v (.str d35_), [])), (6, (.v (.str f38_.1), [])), (7, (.v (.bool f38_.2), [])), (8, (.v (.sl (List.map GFile.c c39_)), []))], [], []⟩ _ (by kernel_rfl) (.cons (claws_toFileS h38) .nil) ?_
      refine Wc.seq ?_
      obtain ⟨f40_, h39, h⟩ := obind h
      refine Wc.region [((none, []), none), ((none, []), none), ((some (.tup [.str f40_.1, .bool f40_.2]), []), none)] [0, 6, 7, 8, 9, 10] [] [] ⟨[(0, (.v (.sl (List.map GFile.c c34_)), [])), (6, (.v (.str f38_.1), [])), (7, (.v (.bool f38_.2), [])), (8, (.v (.sl (List.map GFile.c c39_)), [])), (9, (.v (.str f40_.1), [])), (10, (.v (.bool f40_.2), []))], [], []⟩ _ (by kernel_rfl) (.cons (cimpl_FileAt h39) .nil) ?_
      refine Wc.seq ?_
      refine Wc.seq ?_
      rcases oif h with ⟨h40, h⟩ | ⟨h40, h⟩
      · refine Wc.region [((none, []), none), ((none, []), none), ((none, []), none), ((none, []), some (.bool true))] [0, 8, 41] [] [] ⟨[(0, (.v (.sl (List.map GFile.c c34_)), [])), (8, (.v (.sl (List.map GFile.c c39_)), [])), (41, (.v (.bool true), []))], [], []⟩ _ (by kernel_rfl) (.cons (congrArg AV.bool h40) .nil) ?_
        refine Wc.condT rfl (by kernel_rfl) ?_
        refine Wc.seq ?_
        refine Wc.region [] [4] [] [] ⟨[(4, (.v (.bool false), []))], [], []⟩ _ (by kernel_rfl) .nil ?_
        refine Wc.ret ?_
        obtain rfl := Option.some.inj h
        exact ⟨.inl rfl, by kernel_rfl⟩
      · refine Wc.region [((none, []), none), ((none, []), none), ((none, []), none), ((none, []), some (.bool false))] [0, 8, 41] [] [] ⟨[(0, (.v (.sl (List.map GFile.c c34_)), [])), (8, (.v (.sl (List.map GFile.c c39_)), [])), (41, (.v (.bool (!(f40_.2 == f38_.2))), []))], [], []⟩ _ (by kernel_rfl) (.cons (congrArg AV.bool h40) .nil) ?_
        rcases oif h with ⟨h41, h⟩ | ⟨h41, h⟩
        · refine Wc.condT h41 (by kernel_rfl) ?_
          refine Wc.seq ?_
          refine Wc.region [] [4] [] [] ⟨[(4, (.v (.bool false), []))], [], []⟩ _ (by kernel_rfl) .nil ?_
          refine Wc.ret ?_
          obtain rfl := Option.some.inj h
          exact ⟨.inl rfl, by kernel_rfl⟩
        · refine Wc.condF h41 (by kernel_rfl) ?_
          refine Wc.keep [0, 8] [] [] ⟨[(0, (.v (.sl (List.map GFile.c c34_)), [])), (8, (.v (.sl (List.map GFile.c c39_)), []))], [], []⟩ (by kernel_rfl) ?_
          refine Wc.skip ?_
          refine Wc.seq ?_
          refine Wc.seq ?_
          obtain ⟨c41_, h42, h⟩ := obind h
          obtain ⟨e42_, h43, h⟩ := obind h
          refine Wc.region [((none, []), none), ((none, []), none), ((some (.sl (List.map GFile.c c41_)), []), none), ((some (.bool e42_), []), none)] [46] [] [] ⟨[(46, (.v (.bool (!e42_)), []))], [], []⟩ _ (by kernel_rfl) (.cons (claws_toFileS h42) (.cons (claws_eqFileS h43) .nil)) ?_
          rcases oif h with ⟨h44, h⟩ | ⟨h44, h⟩
          · refine Wc.condT h44 (by kernel_rfl) ?_
            refine Wc.seq ?_
            refine Wc.region [] [4] [] [] ⟨[(4, (.v (.bool false), []))], [], []⟩ _ (by kernel_rfl) .nil ?_
            refine Wc.ret ?_
            obtain rfl := Option.some.inj h
            exact ⟨.inl rfl, by kernel_rfl⟩
          · refine Wc.condF h44 (by kernel_rfl) ?_
            refine Wc.keep [] [] [] ⟨[], [], []⟩ (by kernel_rfl) ?_
            refine Wc.skip ?_
            refine Wc.seq ?_
            refine Wc.region [] [4] [] [] ⟨[(4, (.v (.bool true), []))], [], []⟩ _ (by kernel_rfl) .nil ?_
            refine Wc.ret ?_
            obtain rfl := Option.some.inj h
            exact ⟨.inl rfl, by kernel_rfl⟩
end Go.Proofs.Ytbpenglnebpbcaa

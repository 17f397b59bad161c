/- What the functions do. -/
import Derived.Test.YtbpenglnebpbcaaTy
set_option linter.unusedVariables false
set_option linter.unusedSimpArgs false
namespace Go.Proofs.Ytbpenglnebpbcaa
open Go.RowKit Go.Av
/-- laws.szFile -/
def plaws_szFile (k : Nat) (a1_ : GFile) (b2_ : Int) : Option Int :=
  if (decide ((wr.i64 (b2_ - (a1_.gName.size : Int))) < 0)) = true then
    some (-1)
  else
    if (decide ((wr.i64 ((wr.i64 (b2_ - (a1_.gName.size : Int))) - (a1_.gText.size : Int))) < 0)) = true then
      some (-1)
    else
      some (wr.i64 ((wr.i64 (b2_ - (a1_.gName.size : Int))) - (a1_.gText.size : Int)))
theorem claws_szFile {k : Nat} {a1_ : GFile} {b2_ : Int} {r : Int} (h : plaws_szFile k a1_ b2_ = some r) : FnC Try.prog 40 [.agg [.str a1_.gName, .str a1_.gText], .int .i64 b2_] (.int .i64 r) [] := by
  refine FnC.of Try.func40 (rfl : Try.f40.body = some _) (Nat.le_of_ble_eq_true (by kernel_rfl)) ?_
  intro w0 X0
  unfold plaws_szFile at h
  refine Wc.seq ?_
  refine Wc.region [] [1, 2] [2] [] ⟨[(1, (.v (.int .i64 b2_), [])), (2, (.ptr 2 0, []))], [(2, ([.str a1_.gName, .str a1_.gText], []))], []⟩ _ (by kernel_rfl) .nil ?_
  refine Wc.seq ?_
  refine Wc.region [] [1, 2] [2] [] ⟨[(1, (.v (.int .i64 (wr.i64 (b2_ - (a1_.gName.size : Int)))), [])), (2, (.ptr 2 0, []))], [(2, ([.str a1_.gName, .str a1_.gText], []))], []⟩ _ (by kernel_rfl) .nil ?_
  refine Wc.seq ?_
  refine Wc.seq ?_
  refine Wc.region [] [1, 2, 11] [2] [] ⟨[(1, (.v (.int .i64 (wr.i64 (b2_ - (a1_.gName.size : Int)))), [])), (2, (.ptr 2 0, [])), (11, (.v (.bool (decide ((wr.i64 (b2_ - (a1_.gName.size : Int))) < 0))), []))], [(2, ([.str a1_.gName, .str a1_.gText], []))], []⟩ _ (by kernel_rfl) .nil ?_
  rcases oif h with ⟨h1, h⟩ | ⟨h1, h⟩
  · refine Wc.condT h1 (by kernel_rfl) ?_
    refine Wc.seq ?_
    refine Wc.region [] [4] [] [] ⟨[(4, (.v (.int .i64 (-1)), []))], [], []⟩ _ (by kernel_rfl) .nil ?_
    refine Wc.ret ?_
    obtain rfl := Option.some.inj h
    exact ⟨.inl rfl, by kernel_rfl⟩
  · refine Wc.condF h1 (by kernel_rfl) ?_
    refine Wc.keep [1, 2] [2] [] ⟨[(1, (.v (.int .i64 (wr.i64 (b2_ - (a1_.gName.size : Int)))), [])), (2, (.ptr 2 0, []))], [(2, ([.str a1_.gName, .str a1_.gText], []))], []⟩ (by kernel_rfl) ?_
    refine Wc.skip ?_
    refine Wc.seq ?_
    refine Wc.region [] [1] [] [] ⟨[(1, (.v (.int .i64 (wr.i64 ((wr.i64 (b2_ - (a1_.gName.size : Int))) - (a1_.gText.size : Int)))), []))], [], []⟩ _ (by kernel_rfl) .nil ?_
    refine Wc.seq ?_
    refine Wc.seq ?_
    refine Wc.region [] [1, 18] [] [] ⟨[(1, (.v (.int .i64 (wr.i64 ((wr.i64 (b2_ - (a1_.gName.size : Int))) - (a1_.gText.size : Int)))), [])), (18, (.v (.bool (decide ((wr.i64 ((wr.i64 (b2_ - (a1_.gName.size : Int))) - (a1_.gText.size : Int))) < 0))), []))], [], []⟩ _ (by kernel_rfl) .nil ?_
    rcases oif h with ⟨h2, h⟩ | ⟨h2, h⟩
    · refine Wc.condT h2 (by kernel_rfl) ?_
      refine Wc.seq ?_
      refine Wc.region [] [4] [] [] ⟨[(4, (.v (.int .i64 (-1)), []))], [], []⟩ _ (by kernel_rfl) .nil ?_
      refine Wc.ret ?_
      obtain rfl := Option.some.inj h
      exact ⟨.inl rfl, by kernel_rfl⟩
    · refine Wc.condF h2 (by kernel_rfl) ?_
      refine Wc.keep [1] [] [] ⟨[(1, (.v (.int .i64 (wr.i64 ((wr.i64 (b2_ - (a1_.gName.size : Int))) - (a1_.gText.size : Int)))), []))], [], []⟩ (by kernel_rfl) ?_
      refine Wc.skip ?_
      refine Wc.seq ?_
      refine Wc.region [] [4] [] [] ⟨[(4, (.v (.int .i64 (wr.i64 ((wr.i64 (b2_ - (a1_.gName.size : Int))) - (a1_.gText.size : Int)))), []))], [], []⟩ _ (by kernel_rfl) .nil ?_
      refine Wc.ret ?_
      obtain rfl := Option.some.inj h
      exact ⟨.inl rfl, by kernel_rfl⟩

def plaws_szFileS_L1 (k : Nat) (c3_ : List GFile) : Nat → Int → Int → Option (Out Int Int)
  | 0, _, _ => none
  | m + 1, b5_, b6_ =>
    if (decide (b6_ < (c3_.length : Int))) = true then
      (at' c3_ b6_).bind fun a8_ =>
      (plaws_szFile k a8_ b5_).bind fun b9_ =>
      if (decide (b9_ < 0)) = true then
        some (.ret (-1))
      else
        plaws_szFileS_L1 k c3_ m b9_ (wr.i64 (b6_ + 1))
    else
      some (.done b5_)
/-- laws.szFileS -/
def plaws_szFileS (k : Nat) (c3_ : List GFile) (b4_ : Int) : Option Int :=
  if (decide ((wr.i64 (b4_ - (c3_.length : Int))) < 0)) = true then
    some (-1)
  else
    (plaws_szFileS_L1 k c3_ k (wr.i64 (b4_ - (c3_.length : Int))) 0).bind fun out1 => match out1 with
    | .ret r => some r
    | .done b7_ =>
      some b7_
theorem claws_szFileS {k : Nat} {c3_ : List GFile} {b4_ : Int} {r : Int} (h : plaws_szFileS k c3_ b4_ = some r) : FnC Try.prog 13 [.sl (List.map GFile.c c3_), .int .i64 b4_] (.int .i64 r) [] := by
  refine FnC.of Try.func13 (rfl : Try.f13.body = some _) (Nat.le_of_ble_eq_true (by kernel_rfl)) ?_
  intro w0 X0
  unfold plaws_szFileS at h
  refine Wc.seq ?_
  refine Wc.region [] [0, 1] [] [] ⟨[(0, (.v (.sl (List.map GFile.c c3_)), [])), (1, (.v (.int .i64 b4_), []))], [], []⟩ _ (by kernel_rfl) .nil ?_
  refine Wc.seq ?_
  refine Wc.region [((none, []), none), ((none, []), none), ((some (.int .i64 (c3_.length : Int)), []), none)] [0, 1] [] [] ⟨[(0, (.v (.sl (List.map GFile.c c3_)), [])), (1, (.v (.int .i64 (wr.i64 (b4_ - (c3_.length : Int)))), []))], [], []⟩ _ (by kernel_rfl) (.cons (len_obl GFile.c c3_) .nil) ?_
  refine Wc.seq ?_
  refine Wc.seq ?_
  refine Wc.region [] [0, 1, 11] [] [] ⟨[(0, (.v (.sl (List.map GFile.c c3_)), [])), (1, (.v (.int .i64 (wr.i64 (b4_ - (c3_.length : Int)))), [])), (11, (.v (.bool (decide ((wr.i64 (b4_ - (c3_.length : Int))) < 0))), []))], [], []⟩ _ (by kernel_rfl) .nil ?_
  rcases oif h with ⟨h3, h⟩ | ⟨h3, h⟩
  · refine Wc.condT h3 (by kernel_rfl) ?_
    refine Wc.seq ?_
    refine Wc.region [] [4] [] [] ⟨[(4, (.v (.int .i64 (-1)), []))], [], []⟩ _ (by kernel_rfl) .nil ?_
    refine Wc.ret ?_
    obtain rfl := Option.some.inj h
    exact ⟨.inl rfl, by kernel_rfl⟩
  · refine Wc.condF h3 (by kernel_rfl) ?_
    refine Wc.keep [0, 1] [] [] ⟨[(0, (.v (.sl (List.map GFile.c c3_)), [])), (1, (.v (.int .i64 (wr.i64 (b4_ - (c3_.length : Int)))), []))], [], []⟩ (by kernel_rfl) ?_
    refine Wc.skip ?_
    refine Wc.seq ?_
    refine Wc.seq ?_
    refine Wc.region [] [0, 1, 5] [] [] ⟨[(0, (.v (.sl (List.map GFile.c c3_)), [])), (1, (.v (.int .i64 (wr.i64 (b4_ - (c3_.length : Int)))), [])), (5, (.v (.int .i64 0), []))], [], []⟩ _ (by kernel_rfl) .nil ?_
    obtain ⟨out1, h4, h⟩ := obind h
    refine Wc.lastJ (fun st => ∃ (b7_ : Int), out1 = .done b7_ ∧ st = ⟨[(1, (.v (.int .i64 b7_), []))], [], []⟩) ?_ ?_
    · refine Wc.block ?_
      refine Wc.loop (fun m st => ∃ (b5_ : Int) (b6_ : Int), st = ⟨[(0, (.v (.sl (List.map GFile.c c3_)), [])), (1, (.v (.int .i64 b5_), [])), (5, (.v (.int .i64 b6_), []))], [], []⟩ ∧ plaws_szFileS_L1 k c3_ m b5_ b6_ = some out1) ?_ k ⟨_, _, rfl, h4⟩
      rintro m st ⟨b5_, b6_, rfl, h4⟩
      cases m with
      | zero => exact (onone h4).elim
      | succ m =>
        refine Wc.seq ?_
        refine Wc.seq ?_
        refine Wc.region [((none, []), none), ((none, []), none), ((some (.int .i64 (c3_.length : Int)), []), none)] [0, 1, 5, 15] [] [] ⟨[(0, (.v (.sl (List.map GFile.c c3_)), [])), (1, (.v (.int .i64 b5_), [])), (5, (.v (.int .i64 b6_), [])), (15, (.v (.bool (decide (b6_ < (c3_.length : Int)))), []))], [], []⟩ _ (by kernel_rfl) (.cons (len_obl GFile.c c3_) .nil) ?_
        rcases oif h4 with ⟨h5, h4⟩ | ⟨h5, h4⟩
        · refine Wc.condT h5 (by kernel_rfl) ?_
          refine Wc.keep [0, 1, 5] [] [] ⟨[(0, (.v (.sl (List.map GFile.c c3_)), [])), (1, (.v (.int .i64 b5_), [])), (5, (.v (.int .i64 b6_), []))], [], []⟩ (by kernel_rfl) ?_
          refine Wc.skip ?_
          refine Wc.seq ?_
          refine Wc.block ?_
          refine Wc.seq ?_
          obtain ⟨a8_, h6, h4⟩ := obind h4
          obtain ⟨b9_, h7, h4⟩ := obind h4
          refine Wc.region [((none, []), none), ((none, []), none), ((some (.vptr [.str a8_.gName, .str a8_.gText]), []), none), ((none, []), none), ((none, []), none), ((some (.int .i64 b9_), []), none)] [0, 1, 5] [] [] ⟨[(0, (.v (.sl (List.map GFile.c c3_)), [])), (1, (.v (.int .i64 b9_), [])), (5, (.v (.int .i64 b6_), []))], [], []⟩ _ (by kernel_rfl) (.cons (at_obl (c := GFile.c) (GFile.c_eq a8_) GFile.c_len h6) (.cons (len_ok 2 [.str a8_.gName, .str a8_.gText]) (.cons (claws_szFile h7) .nil))) ?_
          refine Wc.seq ?_
          refine Wc.region [] [0, 1, 5, 25] [] [] ⟨[(0, (.v (.sl (List.map GFile.c c3_)), [])), (1, (.v (.int .i64 b9_), [])), (5, (.v (.int .i64 b6_), [])), (25, (.v (.bool (decide (b9_ < 0))), []))], [], []⟩ _ (by kernel_rfl) .nil ?_
          rcases oif h4 with ⟨h8, h4⟩ | ⟨h8, h4⟩
          · refine Wc.condT h8 (by kernel_rfl) ?_
            refine Wc.seq ?_
            refine Wc.region [] [4] [] [] ⟨[(4, (.v (.int .i64 (-1)), []))], [], []⟩ _ (by kernel_rfl) .nil ?_
            refine Wc.ret ?_
            obtain rfl := Option.some.inj h4
            obtain rfl := Option.some.inj h
            exact ⟨.inl rfl, by kernel_rfl⟩
          · refine Wc.condF h8 (by kernel_rfl) ?_
            refine Wc.keep [0, 1, 5] [] [] ⟨[(0, (.v (.sl (List.map GFile.c c3_)), [])), (1, (.v (.int .i64 b9_), [])), (5, (.v (.int .i64 b6_), []))], [], []⟩ (by kernel_rfl) ?_
            refine Wc.skip ?_
            refine Wc.region [] [0, 1, 5] [] [] ⟨[(0, (.v (.sl (List.map GFile.c c3_)), [])), (1, (.v (.int .i64 b9_), [])), (5, (.v (.int .i64 (wr.i64 (b6_ + 1))), []))], [], []⟩ _ (by kernel_rfl) .nil ?_
            exact ⟨_, Nat.lt_succ_self _, _, _, rfl, h4⟩
        · refine Wc.condF h5 (by kernel_rfl) ?_
          refine Wc.keep [1] [] [] ⟨[(1, (.v (.int .i64 b5_), []))], [], []⟩ (by kernel_rfl) ?_
          refine Wc.exit ?_
          obtain rfl := Option.some.inj h4
          exact ⟨_, rfl, rfl⟩
    · rintro st ⟨b7_, rfl, rfl⟩
      refine Wc.seq ?_
      refine Wc.region [] [4] [] [] ⟨[(4, (.v (.int .i64 b7_), []))], [], []⟩ _ (by kernel_rfl) .nil ?_
      refine Wc.ret ?_
      obtain rfl := Option.some.inj h
      exact ⟨.inl rfl, by kernel_rfl⟩

/-- laws.toFile -/
def plaws_toFile (k : Nat) (a10_ : GFile) : Option GFile :=
  some a10_
theorem claws_toFile {k : Nat} {a10_ : GFile} {r : GFile} (h : plaws_toFile k a10_ = some r) : FnC Try.prog 41 [.agg [.str a10_.gName, .str a10_.gText]] (.agg [.str r.gName, .str r.gText]) [] := by
  refine FnC.of Try.func41 (rfl : Try.f41.body = some _) (Nat.le_of_ble_eq_true (by kernel_rfl)) ?_
  intro w0 X0
  unfold plaws_toFile at h
  refine Wc.seq ?_
  refine Wc.region [] [1, 2] [1, 2] [] ⟨[(1, (.ptr 1 0, [])), (2, (.ptr 2 0, []))], [(1, ([.str a10_.gName, .str a10_.gText], [])), (2, ([.str (bs []), .str (bs [])], []))], []⟩ _ (by kernel_rfl) .nil ?_
  refine Wc.seq ?_
  refine Wc.region [] [1, 2, 3] [1, 2, 3] [] ⟨[(1, (.ptr 1 0, [])), (2, (.ptr 2 0, [])), (3, (.ptr 3 0, []))], [(1, ([.str a10_.gName, .str a10_.gText], [])), (2, ([.str (bs []), .str (bs [])], [])), (3, ([.str (bs []), .str (bs [])], []))], []⟩ _ (by kernel_rfl) .nil ?_
  refine Wc.seq ?_
  refine Wc.region [] [1, 2, 3] [1, 2, 3] [] ⟨[(1, (.ptr 1 0, [])), (2, (.ptr 2 0, [])), (3, (.ptr 3 0, []))], [(1, ([.str a10_.gName, .str a10_.gText], [])), (2, ([.str (bs []), .str (bs [])], [])), (3, ([.str a10_.gName, .str (bs [])], []))], []⟩ _ (by kernel_rfl) .nil ?_
  refine Wc.seq ?_
  refine Wc.region [] [2, 3] [2, 3] [] ⟨[(2, (.ptr 2 0, [])), (3, (.ptr 3 0, []))], [(2, ([.str (bs []), .str (bs [])], [])), (3, ([.str a10_.gName, .str a10_.gText], []))], []⟩ _ (by kernel_rfl) .nil ?_
  refine Wc.seq ?_
  refine Wc.region [] [2] [2] [] ⟨[(2, (.ptr 2 0, []))], [(2, ([.str a10_.gName, .str a10_.gText], []))], []⟩ _ (by kernel_rfl) .nil ?_
  refine Wc.ret ?_
  obtain rfl := Option.some.inj h
  exact ⟨.inl rfl, by kernel_rfl⟩

def plaws_toFileS_L1 (k : Nat) (c11_ : List GFile) : Nat → Int → (List GFile) → Option (Out (List GFile) (List GFile))
  | 0, _, _ => none
  | m + 1, b12_, c13_ =>
    if (decide (b12_ < (c11_.length : Int))) = true then
      (at' c11_ b12_).bind fun a15_ =>
      (plaws_toFile k a15_).bind fun a16_ =>
      if 0 ≤ b12_ ∧ (b12_).toNat < c13_.length then
        plaws_toFileS_L1 k c11_ m (wr.i64 (b12_ + 1)) (c13_.set ((b12_).toNat) a16_)
      else none
    else
      some (.done c13_)
/-- laws.toFileS -/
def plaws_toFileS (k : Nat) (c11_ : List GFile) : Option (List GFile) :=
  if 0 ≤ (c11_.length : Int) ∧ (c11_.length : Int) ≤ 1073741824 then
    (plaws_toFileS_L1 k c11_ k 0 (List.replicate ((c11_.length : Int)).toNat (GFile.mk (bs []) (bs [])))).bind fun out1 => match out1 with
    | .ret r => some r
    | .done c14_ =>
      some c14_
  else none
theorem claws_toFileS {k : Nat} {c11_ : List GFile} {r : List GFile} (h : plaws_toFileS k c11_ = some r) : FnC Try.prog 15 [.sl (List.map GFile.c c11_)] (.sl (List.map GFile.c r)) [] := by
  refine FnC.of Try.func15 (rfl : Try.f15.body = some _) (Nat.le_of_ble_eq_true (by kernel_rfl)) ?_
  intro w0 X0
  unfold plaws_toFileS at h
  refine Wc.seq ?_
  refine Wc.region [((none, []), some (.sl (List.map GFile.c [])))] [0] [] [] ⟨[(0, (.v (.sl (List.map GFile.c c11_)), []))], [], []⟩ _ (by kernel_rfl) (.cons (nil_re GFile.c) .nil) ?_
  refine Wc.seq ?_
  obtain ⟨h9, h⟩ := oguard h
  refine Wc.region [((none, []), none), ((some (.int .i64 (c11_.length : Int)), []), none)] [0, 3] [] [7] ⟨[(0, (.v (.sl (List.map GFile.c c11_)), [])), (3, (.arr 7, []))], [], [(7, (2, List.replicate ((c11_.length : Int)).toNat [.str (bs []), .str (bs [])]))]⟩ _ (by kernel_rfl) (.cons (len_obl GFile.c c11_) (.cons (ms_obl h9) .nil)) ?_
  refine Wc.re (congrArg (St.mk _ _) ((rc_re (rep_re (c := GFile.c) (GFile.c_eq (GFile.mk (bs []) (bs []))) _) rfl) : _ = [(7, (2, List.map GFile.c (List.replicate ((c11_.length : Int)).toNat (GFile.mk (bs []) (bs [])))))])) ?_
  refine Wc.seq ?_
  refine Wc.seq ?_
  refine Wc.region [] [0, 3, 4] [] [7] ⟨[(0, (.v (.sl (List.map GFile.c c11_)), [])), (3, (.arr 7, [])), (4, (.v (.int .i64 0), []))], [], [(7, (2, List.map GFile.c (List.replicate ((c11_.length : Int)).toNat (GFile.mk (bs []) (bs [])))))]⟩ _ (by kernel_rfl) .nil ?_
  obtain ⟨out1, h10, h⟩ := obind h
  refine Wc.lastJ (fun st => ∃ (c14_ : List GFile), out1 = .done c14_ ∧ st = ⟨[(3, (.arr 7, []))], [], [(7, (2, List.map GFile.c c14_))]⟩) ?_ ?_
  · refine Wc.block ?_
    refine Wc.loop (fun m st => ∃ (b12_ : Int) (c13_ : List GFile), st = ⟨[(0, (.v (.sl (List.map GFile.c c11_)), [])), (3, (.arr 7, [])), (4, (.v (.int .i64 b12_), []))], [], [(7, (2, List.map GFile.c c13_))]⟩ ∧ plaws_toFileS_L1 k c11_ m b12_ c13_ = some out1) ?_ k ⟨_, _, rfl, h10⟩
    rintro m st ⟨b12_, c13_, rfl, h10⟩
    cases m with
    | zero => exact (onone h10).elim
    | succ m =>
      refine Wc.seq ?_
      refine Wc.seq ?_
      refine Wc.region [((none, []), none), ((none, []), none), ((some (.int .i64 (c11_.length : Int)), []), none)] [0, 3, 4, 11] [] [7] ⟨[(0, (.v (.sl (List.map GFile.c c11_)), [])), (3, (.arr 7, [])), (4, (.v (.int .i64 b12_), [])), (11, (.v (.bool (decide (b12_ < (c11_.length : Int)))), []))], [], [(7, (2, List.map GFile.c c13_))]⟩ _ (by kernel_rfl) (.cons (len_obl GFile.c c11_) .nil) ?_
      rcases oif h10 with ⟨h11, h10⟩ | ⟨h11, h10⟩
      · refine Wc.condT h11 (by kernel_rfl) ?_
        refine Wc.keep [0, 3, 4] [] [7] ⟨[(0, (.v (.sl (List.map GFile.c c11_)), [])), (3, (.arr 7, [])), (4, (.v (.int .i64 b12_), []))], [], [(7, (2, List.map GFile.c c13_))]⟩ (by kernel_rfl) ?_
        refine Wc.skip ?_
        refine Wc.seq ?_
        refine Wc.block ?_
        obtain ⟨a15_, h12, h10⟩ := obind h10
        obtain ⟨a16_, h13, h10⟩ := obind h10
        obtain ⟨h14, h10⟩ := oguard h10
        refine Wc.region [((none, []), none), ((none, []), none), ((none, []), none), ((none, []), none), ((some (.vptr [.str a15_.gName, .str a15_.gText]), []), none), ((none, []), none), ((some (.agg [.str a16_.gName, .str a16_.gText]), []), none)] [0, 3, 4] [] [7] ⟨[(0, (.v (.sl (List.map GFile.c c11_)), [])), (3, (.arr 7, [])), (4, (.v (.int .i64 b12_), []))], [], [(7, (2, (List.map GFile.c c13_).modify ((b12_).toNat) (fun c => setAll c 0 [.str a16_.gName, .str a16_.gText])))]⟩ _ (by kernel_rfl) (.cons (at_obl (c := GFile.c) (GFile.c_eq a15_) GFile.c_len h12) (.cons (len_ok 2 [.str a15_.gName, .str a15_.gText]) (.cons (claws_toFile h13) (.cons (arr_obl (c := GFile.c) h14) (.cons (arr_obl (c := GFile.c) h14).2 .nil))))) ?_
        refine Wc.re (congrArg (St.mk _ _) ((rc_re (mod_re (c := GFile.c) (GFile.c_eq a16_) GFile.c_len _ _) rfl) : _ = [(7, (2, List.map GFile.c (c13_.set ((b12_).toNat) a16_)))])) ?_
        refine Wc.region [] [0, 3, 4] [] [7] ⟨[(0, (.v (.sl (List.map GFile.c c11_)), [])), (3, (.arr 7, [])), (4, (.v (.int .i64 (wr.i64 (b12_ + 1))), []))], [], [(7, (2, List.map GFile.c (c13_.set ((b12_).toNat) a16_)))]⟩ _ (by kernel_rfl) .nil ?_
        exact ⟨_, Nat.lt_succ_self _, _, _, rfl, h10⟩
      · refine Wc.condF h11 (by kernel_rfl) ?_
        refine Wc.keep [3] [] [7] ⟨[(3, (.arr 7, []))], [], [(7, (2, List.map GFile.c c13_))]⟩ (by kernel_rfl) ?_
        refine Wc.exit ?_
        obtain rfl := Option.some.inj h10
        exact ⟨_, rfl, rfl⟩
  · rintro st ⟨c14_, rfl, rfl⟩
    refine Wc.seq ?_
    refine Wc.region [] [2] [] [7] ⟨[(2, (.arr 7, []))], [], [(7, (2, List.map GFile.c c14_))]⟩ _ (by kernel_rfl) .nil ?_
    refine Wc.ret ?_
    obtain rfl := Option.some.inj h
    exact ⟨.inl rfl, by kernel_rfl⟩

/-- laws.eqFile -/
def plaws_eqFile (k : Nat) (a17_ : GFile) (a18_ : GFile) : Option Bool :=
  if (!(sEq a17_.gName a18_.gName)) = true then
    some false
  else
    if (!(sEq a17_.gText a18_.gText)) = true then
      some false
    else
      some true
theorem claws_eqFile {k : Nat} {a17_ : GFile} {a18_ : GFile} {r : Bool} (h : plaws_eqFile k a17_ a18_ = some r) : FnC Try.prog 42 [.agg [.str a17_.gName, .str a17_.gText], .agg [.str a18_.gName, .str a18_.gText]] (.bool r) [] := by
  refine FnC.of Try.func42 (rfl : Try.f42.body = some _) (Nat.le_of_ble_eq_true (by kernel_rfl)) ?_
  intro w0 X0
  unfold plaws_eqFile at h
  refine Wc.seq ?_
  refine Wc.region [] [2, 3] [2, 3] [] ⟨[(2, (.ptr 2 0, [])), (3, (.ptr 3 0, []))], [(2, ([.str a17_.gName, .str a17_.gText], [])), (3, ([.str a18_.gName, .str a18_.gText], []))], []⟩ _ (by kernel_rfl) .nil ?_
  refine Wc.seq ?_
  refine Wc.seq ?_
  refine Wc.region [] [2, 3, 9] [2, 3] [] ⟨[(2, (.ptr 2 0, [])), (3, (.ptr 3 0, [])), (9, (.v (.bool (!(sEq a17_.gName a18_.gName))), []))], [(2, ([.str a17_.gName, .str a17_.gText], [])), (3, ([.str a18_.gName, .str a18_.gText], []))], []⟩ _ (by kernel_rfl) .nil ?_
  rcases oif h with ⟨h15, h⟩ | ⟨h15, h⟩
  · refine Wc.condT h15 (by kernel_rfl) ?_
    refine Wc.seq ?_
    refine Wc.region [] [4] [] [] ⟨[(4, (.v (.bool false), []))], [], []⟩ _ (by kernel_rfl) .nil ?_
    refine Wc.ret ?_
    obtain rfl := Option.some.inj h
    exact ⟨.inl rfl, by kernel_rfl⟩
  · refine Wc.condF h15 (by kernel_rfl) ?_
    refine Wc.keep [2, 3] [2, 3] [] ⟨[(2, (.ptr 2 0, [])), (3, (.ptr 3 0, []))], [(2, ([.str a17_.gName, .str a17_.gText], [])), (3, ([.str a18_.gName, .str a18_.gText], []))], []⟩ (by kernel_rfl) ?_
    refine Wc.skip ?_
    refine Wc.seq ?_
    refine Wc.seq ?_
    refine Wc.region [] [14] [] [] ⟨[(14, (.v (.bool (!(sEq a17_.gText a18_.gText))), []))], [], []⟩ _ (by kernel_rfl) .nil ?_
    rcases oif h with ⟨h16, h⟩ | ⟨h16, h⟩
    · refine Wc.condT h16 (by kernel_rfl) ?_
      refine Wc.seq ?_
      refine Wc.region [] [4] [] [] ⟨[(4, (.v (.bool false), []))], [], []⟩ _ (by kernel_rfl) .nil ?_
      refine Wc.ret ?_
      obtain rfl := Option.some.inj h
      exact ⟨.inl rfl, by kernel_rfl⟩
    · refine Wc.condF h16 (by kernel_rfl) ?_
      refine Wc.keep [] [] [] ⟨[], [], []⟩ (by kernel_rfl) ?_
      refine Wc.skip ?_
      refine Wc.seq ?_
      refine Wc.region [] [4] [] [] ⟨[(4, (.v (.bool true), []))], [], []⟩ _ (by kernel_rfl) .nil ?_
      refine Wc.ret ?_
      obtain rfl := Option.some.inj h
      exact ⟨.inl rfl, by kernel_rfl⟩

def plaws_eqFileS_L1 (k : Nat) (c19_ : List GFile) (c20_ : List GFile) : Nat → Int → Option (Out Bool Unit)
  | 0, _ => none
  | m + 1, b21_ =>
    if (decide (b21_ < (c19_.length : Int))) = true then
      (at' c19_ b21_).bind fun a22_ =>
      (at' c20_ b21_).bind fun a23_ =>
      (plaws_eqFile k a22_ a23_).bind fun d24_ =>
      if (!d24_) = true then
        some (.ret false)
      else
        plaws_eqFileS_L1 k c19_ c20_ m (wr.i64 (b21_ + 1))
    else
      some (.done ())
/-- laws.eqFileS -/
def plaws_eqFileS (k : Nat) (c19_ : List GFile) (c20_ : List GFile) : Option Bool :=
  if ((c19_.length : Int) != (c20_.length : Int)) = true then
    some false
  else
    (plaws_eqFileS_L1 k c19_ c20_ k 0).bind fun out1 => match out1 with
    | .ret r => some r
    | .done () =>
      some true
theorem claws_eqFileS {k : Nat} {c19_ : List GFile} {c20_ : List GFile} {r : Bool} (h : plaws_eqFileS k c19_ c20_ = some r) : FnC Try.prog 17 [.sl (List.map GFile.c c19_), .sl (List.map GFile.c c20_)] (.bool r) [] := by
  refine FnC.of Try.func17 (rfl : Try.f17.body = some _) (Nat.le_of_ble_eq_true (by kernel_rfl)) ?_
  intro w0 X0
  unfold plaws_eqFileS at h
  refine Wc.seq ?_
  refine Wc.region [] [0, 1] [] [] ⟨[(0, (.v (.sl (List.map GFile.c c19_)), [])), (1, (.v (.sl (List.map GFile.c c20_)), []))], [], []⟩ _ (by kernel_rfl) .nil ?_
  refine Wc.seq ?_
  refine Wc.seq ?_
  refine Wc.region [((none, []), none), ((some (.int .i64 (c19_.length : Int)), []), none), ((none, []), none), ((some (.int .i64 (c20_.length : Int)), []), none)] [0, 1, 10] [] [] ⟨[(0, (.v (.sl (List.map GFile.c c19_)), [])), (1, (.v (.sl (List.map GFile.c c20_)), [])), (10, (.v (.bool ((c19_.length : Int) != (c20_.length : Int))), []))], [], []⟩ _ (by kernel_rfl) (.cons (len_obl GFile.c c19_) (.cons (len_obl GFile.c c20_) .nil)) ?_
  rcases oif h with ⟨h17, h⟩ | ⟨h17, h⟩
  · refine Wc.condT h17 (by kernel_rfl) ?_
    refine Wc.seq ?_
    refine Wc.region [] [4] [] [] ⟨[(4, (.v (.bool false), []))], [], []⟩ _ (by kernel_rfl) .nil ?_
    refine Wc.ret ?_
    obtain rfl := Option.some.inj h
    exact ⟨.inl rfl, by kernel_rfl⟩
  · refine Wc.condF h17 (by kernel_rfl) ?_
    refine Wc.keep [0, 1] [] [] ⟨[(0, (.v (.sl (List.map GFile.c c19_)), [])), (1, (.v (.sl (List.map GFile.c c20_)), []))], [], []⟩ (by kernel_rfl) ?_
    refine Wc.skip ?_
    refine Wc.seq ?_
    refine Wc.seq ?_
    refine Wc.region [] [0, 1, 5] [] [] ⟨[(0, (.v (.sl (List.map GFile.c c19_)), [])), (1, (.v (.sl (List.map GFile.c c20_)), [])), (5, (.v (.int .i64 0), []))], [], []⟩ _ (by kernel_rfl) .nil ?_
    obtain ⟨out1, h18, h⟩ := obind h
    refine Wc.lastJ (fun st => out1 = .done () ∧ st = ⟨[], [], []⟩) ?_ ?_
    · refine Wc.block ?_
      refine Wc.loop (fun m st => ∃ (b21_ : Int), st = ⟨[(0, (.v (.sl (List.map GFile.c c19_)), [])), (1, (.v (.sl (List.map GFile.c c20_)), [])), (5, (.v (.int .i64 b21_), []))], [], []⟩ ∧ plaws_eqFileS_L1 k c19_ c20_ m b21_ = some out1) ?_ k ⟨_, rfl, h18⟩
      rintro m st ⟨b21_, rfl, h18⟩
      cases m with
      | zero => exact (onone h18).elim
      | succ m =>
        refine Wc.seq ?_
        refine Wc.seq ?_
        refine Wc.region [((none, []), none), ((none, []), none), ((some (.int .i64 (c19_.length : Int)), []), none)] [0, 1, 5, 14] [] [] ⟨[(0, (.v (.sl (List.map GFile.c c19_)), [])), (1, (.v (.sl (List.map GFile.c c20_)), [])), (5, (.v (.int .i64 b21_), [])), (14, (.v (.bool (decide (b21_ < (c19_.length : Int)))), []))], [], []⟩ _ (by kernel_rfl) (.cons (len_obl GFile.c c19_) .nil) ?_
        rcases oif h18 with ⟨h19, h18⟩ | ⟨h19, h18⟩
        · refine Wc.condT h19 (by kernel_rfl) ?_
          refine Wc.keep [0, 1, 5] [] [] ⟨[(0, (.v (.sl (List.map GFile.c c19_)), [])), (1, (.v (.sl (List.map GFile.c c20_)), [])), (5, (.v (.int .i64 b21_), []))], [], []⟩ (by kernel_rfl) ?_
          refine Wc.skip ?_
          refine Wc.seq ?_
          refine Wc.block ?_
          refine Wc.seq ?_
          obtain ⟨a22_, h20, h18⟩ := obind h18
          obtain ⟨a23_, h21, h18⟩ := obind h18
          obtain ⟨d24_, h22, h18⟩ := obind h18
          refine Wc.draw hmix [((none, []), none), ((none, []), none), ((some (.vptr [.str a22_.gName, .str a22_.gText]), []), none), ((none, []), none), ((none, []), none), ((none, []), none), ((some (.vptr [.str a23_.gName, .str a23_.gText]), []), none), ((none, []), none), ((some (.bool d24_), []), none)] [0, 1, 5, 26] [] [] ⟨[(0, (.v (.sl (List.map GFile.c c19_)), [])), (1, (.v (.sl (List.map GFile.c c20_)), [])), (5, (.v (.int .i64 b21_), [])), (26, (.v (.bool (!d24_)), []))], [], []⟩ _ (by kernel_rfl) (.cons (at_obl (c := GFile.c) (GFile.c_eq a22_) GFile.c_len h20) (.cons (len_ok 2 [.str a22_.gName, .str a22_.gText]) (.cons (at_obl (c := GFile.c) (GFile.c_eq a23_) GFile.c_len h21) (.cons (len_ok 2 [.str a23_.gName, .str a23_.gText]) (.cons (claws_eqFile h22) .nil))))) ?_
          rcases oif h18 with ⟨h23, h18⟩ | ⟨h23, h18⟩
          · refine Wc.condT h23 (by kernel_rfl) ?_
            refine Wc.seq ?_
            refine Wc.region [] [4] [] [] ⟨[(4, (.v (.bool false), []))], [], []⟩ _ (by kernel_rfl) .nil ?_
            refine Wc.ret ?_
            obtain rfl := Option.some.inj h18
            obtain rfl := Option.some.inj h
            exact ⟨.inl rfl, by kernel_rfl⟩
          · refine Wc.condF h23 (by kernel_rfl) ?_
            refine Wc.keep [0, 1, 5] [] [] ⟨[(0, (.v (.sl (List.map GFile.c c19_)), [])), (1, (.v (.sl (List.map GFile.c c20_)), [])), (5, (.v (.int .i64 b21_), []))], [], []⟩ (by kernel_rfl) ?_
            refine Wc.skip ?_
            refine Wc.region [] [0, 1, 5] [] [] ⟨[(0, (.v (.sl (List.map GFile.c c19_)), [])), (1, (.v (.sl (List.map GFile.c c20_)), [])), (5, (.v (.int .i64 (wr.i64 (b21_ + 1))), []))], [], []⟩ _ (by kernel_rfl) .nil ?_
            exact ⟨_, Nat.lt_succ_self _, _, rfl, h18⟩
        · refine Wc.condF h19 (by kernel_rfl) ?_
          refine Wc.keep [] [] [] ⟨[], [], []⟩ (by kernel_rfl) ?_
          refine Wc.exit ?_
          obtain rfl := Option.some.inj h18
          exact ⟨rfl, rfl⟩
    · rintro st ⟨rfl, rfl⟩
      refine Wc.seq ?_
      refine Wc.region [] [4] [] [] ⟨[(4, (.v (.bool true), []))], [], []⟩ _ (by kernel_rfl) .nil ?_
      refine Wc.ret ?_
      obtain rfl := Option.some.inj h
      exact ⟨.inl rfl, by kernel_rfl⟩

/-- spec.l05Small -/
def pspec_l05Small (k : Nat) (b25_ : Int) : Option Bool :=
  if (decide (b25_ ≥ 97)) = true then
    some (decide (b25_ ≤ 122))
  else
    some false
theorem cspec_l05Small {k : Nat} {b25_ : Int} {r : Bool} (h : pspec_l05Small k b25_ = some r) : FnC Try.prog 57 [.int .u8 b25_] (.bool r) [] := by
  refine FnC.of Try.func57 (rfl : Try.f57.body = some _) (Nat.le_of_ble_eq_true (by kernel_rfl)) ?_
  intro w0 X0
  unfold pspec_l05Small at h
  refine Wc.seq ?_
  refine Wc.region [] [0] [] [] ⟨[(0, (.v (.int .u8 b25_), []))], [], []⟩ _ (by kernel_rfl) .nil ?_
  refine Wc.seq ?_
  rcases oif h with ⟨h24, h⟩ | ⟨h24, h⟩
  · refine Wc.region [((none, []), none), ((none, []), none), ((none, []), some (.bool true))] [2] [] [] ⟨[(2, (.v (.bool (decide (b25_ ≤ 122))), []))], [], []⟩ _ (by kernel_rfl) (.cons (congrArg AV.bool h24) .nil) ?_
    refine Wc.ret ?_
    obtain rfl := Option.some.inj h
    exact ⟨.inl rfl, by kernel_rfl⟩
  · refine Wc.region [((none, []), none), ((none, []), none), ((none, []), some (.bool false))] [2] [] [] ⟨[(2, (.v (.bool false), []))], [], []⟩ _ (by kernel_rfl) (.cons (congrArg AV.bool h24) .nil) ?_
    refine Wc.ret ?_
    obtain rfl := Option.some.inj h
    exact ⟨.inl rfl, by kernel_rfl⟩

/-- spec.l01In -/
def pspec_l01In (k : Nat) (b26_ : Int) (b27_ : Int) (b28_ : Int) : Option Bool :=
  if (decide (b26_ ≥ b27_)) = true then
    some (decide (b26_ ≤ b28_))
  else
    some false
theorem cspec_l01In {k : Nat} {b26_ : Int} {b27_ : Int} {b28_ : Int} {r : Bool} (h : pspec_l01In k b26_ b27_ b28_ = some r) : FnC Try.prog 58 [.int .i64 b26_, .int .i64 b27_, .int .i64 b28_] (.bool r) [] := by
  refine FnC.of Try.func58 (rfl : Try.f58.body = some _) (Nat.le_of_ble_eq_true (by kernel_rfl)) ?_
  intro w0 X0
  unfold pspec_l01In at h
  refine Wc.seq ?_
  refine Wc.region [] [0, 1, 2] [] [] ⟨[(0, (.v (.int .i64 b26_), [])), (1, (.v (.int .i64 b27_), [])), (2, (.v (.int .i64 b28_), []))], [], []⟩ _ (by kernel_rfl) .nil ?_
  refine Wc.seq ?_
  rcases oif h with ⟨h25, h⟩ | ⟨h25, h⟩
  · refine Wc.region [((none, []), none), ((none, []), none), ((none, []), none), ((none, []), some (.bool true))] [6] [] [] ⟨[(6, (.v (.bool (decide (b26_ ≤ b28_))), []))], [], []⟩ _ (by kernel_rfl) (.cons (congrArg AV.bool h25) .nil) ?_
    refine Wc.ret ?_
    obtain rfl := Option.some.inj h
    exact ⟨.inl rfl, by kernel_rfl⟩
  · refine Wc.region [((none, []), none), ((none, []), none), ((none, []), none), ((none, []), some (.bool false))] [6] [] [] ⟨[(6, (.v (.bool false), []))], [], []⟩ _ (by kernel_rfl) (.cons (congrArg AV.bool h25) .nil) ?_
    refine Wc.ret ?_
    obtain rfl := Option.some.inj h
    exact ⟨.inl rfl, by kernel_rfl⟩

def pspec_l16Name_L1 (k : Nat) (e29_ : ByteArray) : Nat → Int → Option (Out Bool Unit)
  | 0, _ => none
  | m + 1, b30_ =>
    if (decide (b30_ < (e29_.size : Int))) = true then
      if 0 ≤ b30_ ∧ (b30_).toNat < e29_.size then
        (pspec_l05Small k (bt e29_ b30_)).bind fun d31_ =>
        if (!d31_) = true then
          some (.ret false)
        else
          pspec_l16Name_L1 k e29_ m (wr.i64 (b30_ + 1))
      else none
    else
      some (.done ())
/-- spec.l16Name -/
def pspec_l16Name (k : Nat) (e29_ : ByteArray) : Option Bool :=
  (pspec_l16Name_L1 k e29_ k 0).bind fun out1 => match out1 with
  | .ret r => some r
  | .done () =>
    (pspec_l01In k (e29_.size : Int) 1 8).bind fun d32_ =>
    some d32_
theorem cspec_l16Name {k : Nat} {e29_ : ByteArray} {r : Bool} (h : pspec_l16Name k e29_ = some r) : FnC Try.prog 38 [.str e29_] (.bool r) [] := by
  refine FnC.of Try.func38 (rfl : Try.f38.body = some _) (Nat.le_of_ble_eq_true (by kernel_rfl)) ?_
  intro w0 X0
  unfold pspec_l16Name at h
  refine Wc.seq ?_
  refine Wc.region [] [0] [] [] ⟨[(0, (.v (.str e29_), []))], [], []⟩ _ (by kernel_rfl) .nil ?_
  refine Wc.seq ?_
  refine Wc.seq ?_
  refine Wc.region [] [0, 3] [] [] ⟨[(0, (.v (.str e29_), [])), (3, (.v (.int .i64 0), []))], [], []⟩ _ (by kernel_rfl) .nil ?_
  obtain ⟨out1, h26, h⟩ := obind h
  refine Wc.lastJ (fun st => out1 = .done () ∧ st = ⟨[(0, (.v (.str e29_), []))], [], []⟩) ?_ ?_
  · refine Wc.block ?_
    refine Wc.loop (fun m st => ∃ (b30_ : Int), st = ⟨[(0, (.v (.str e29_), [])), (3, (.v (.int .i64 b30_), []))], [], []⟩ ∧ pspec_l16Name_L1 k e29_ m b30_ = some out1) ?_ k ⟨_, rfl, h26⟩
    rintro m st ⟨b30_, rfl, h26⟩
    cases m with
    | zero => exact (onone h26).elim
    | succ m =>
      refine Wc.seq ?_
      refine Wc.seq ?_
      refine Wc.region [] [0, 3, 7] [] [] ⟨[(0, (.v (.str e29_), [])), (3, (.v (.int .i64 b30_), [])), (7, (.v (.bool (decide (b30_ < (e29_.size : Int)))), []))], [], []⟩ _ (by kernel_rfl) .nil ?_
      rcases oif h26 with ⟨h27, h26⟩ | ⟨h27, h26⟩
      · refine Wc.condT h27 (by kernel_rfl) ?_
        refine Wc.keep [0, 3] [] [] ⟨[(0, (.v (.str e29_), [])), (3, (.v (.int .i64 b30_), []))], [], []⟩ (by kernel_rfl) ?_
        refine Wc.skip ?_
        refine Wc.seq ?_
        refine Wc.block ?_
        refine Wc.seq ?_
        obtain ⟨h28, h26⟩ := oguard h26
        obtain ⟨d31_, h29, h26⟩ := obind h26
        refine Wc.region [((none, []), none), ((none, []), none), ((none, []), none), ((some (.bool d31_), []), none)] [0, 3, 14] [] [] ⟨[(0, (.v (.str e29_), [])), (3, (.v (.int .i64 b30_), [])), (14, (.v (.bool (!d31_)), []))], [], []⟩ _ (by kernel_rfl) (.cons h28 (.cons (cspec_l05Small h29) .nil)) ?_
        rcases oif h26 with ⟨h30, h26⟩ | ⟨h30, h26⟩
        · refine Wc.condT h30 (by kernel_rfl) ?_
          refine Wc.seq ?_
          refine Wc.region [] [2] [] [] ⟨[(2, (.v (.bool false), []))], [], []⟩ _ (by kernel_rfl) .nil ?_
          refine Wc.ret ?_
          obtain rfl := Option.some.inj h26
          obtain rfl := Option.some.inj h
          exact ⟨.inl rfl, by kernel_rfl⟩
        · refine Wc.condF h30 (by kernel_rfl) ?_
          refine Wc.keep [0, 3] [] [] ⟨[(0, (.v (.str e29_), [])), (3, (.v (.int .i64 b30_), []))], [], []⟩ (by kernel_rfl) ?_
          refine Wc.skip ?_
          refine Wc.region [] [0, 3] [] [] ⟨[(0, (.v (.str e29_), [])), (3, (.v (.int .i64 (wr.i64 (b30_ + 1))), []))], [], []⟩ _ (by kernel_rfl) .nil ?_
          exact ⟨_, Nat.lt_succ_self _, _, rfl, h26⟩
      · refine Wc.condF h27 (by kernel_rfl) ?_
        refine Wc.keep [0] [] [] ⟨[(0, (.v (.str e29_), []))], [], []⟩ (by kernel_rfl) ?_
        refine Wc.exit ?_
        obtain rfl := Option.some.inj h26
        exact ⟨rfl, rfl⟩
  · rintro st ⟨rfl, rfl⟩
    refine Wc.seq ?_
    obtain ⟨d32_, h31, h⟩ := obind h
    refine Wc.region [((none, []), none), ((none, []), none), ((some (.bool d32_), []), none)] [2] [] [] ⟨[(2, (.v (.bool d32_), []))], [], []⟩ _ (by kernel_rfl) (.cons (cspec_l01In h31) .nil) ?_
    refine Wc.ret ?_
    obtain rfl := Option.some.inj h
    exact ⟨.inl rfl, by kernel_rfl⟩

def pspec_FilesOk_L1 (k : Nat) (c33_ : List GFile) : Nat → Int → Option (Out Bool Unit)
  | 0, _ => none
  | m + 1, b34_ =>
    if (decide (b34_ < (c33_.length : Int))) = true then
      (at' c33_ b34_).bind fun a35_ =>
      (pspec_l16Name k a35_.gName).bind fun d36_ =>
      if (!d36_) = true then
        some (.ret false)
      else
        (at' c33_ b34_).bind fun a37_ =>
        if (decide ((a37_.gText.size : Int) > 3000)) = true then
          some (.ret false)
        else
          if (decide (b34_ > 0)) = true then
            (at' c33_ (wr.i64 (b34_ - 1))).bind fun a38_ =>
            (at' c33_ b34_).bind fun a39_ =>
            if (!(sLt a38_.gName a39_.gName)) = true then
              some (.ret false)
            else
              pspec_FilesOk_L1 k c33_ m (wr.i64 (b34_ + 1))
          else
            pspec_FilesOk_L1 k c33_ m (wr.i64 (b34_ + 1))
    else
      some (.done ())
/-- spec.FilesOk -/
def pspec_FilesOk (k : Nat) (c33_ : List GFile) : Option Bool :=
  (pspec_FilesOk_L1 k c33_ k 0).bind fun out1 => match out1 with
  | .ret r => some r
  | .done () =>
    some (decide ((c33_.length : Int) ≤ 6))
theorem cspec_FilesOk {k : Nat} {c33_ : List GFile} {r : Bool} (h : pspec_FilesOk k c33_ = some r) : FnC Try.prog 18 [.sl (List.map GFile.c c33_)] (.bool r) [] := by
  refine FnC.of Try.func18 (rfl : Try.f18.body = some _) (Nat.le_of_ble_eq_true (by kernel_rfl)) ?_
  intro w0 X0
  unfold pspec_FilesOk at h
  refine Wc.seq ?_
  refine Wc.region [] [0] [] [] ⟨[(0, (.v (.sl (List.map GFile.c c33_)), []))], [], []⟩ _ (by kernel_rfl) .nil ?_
  refine Wc.seq ?_
  refine Wc.seq ?_
  refine Wc.region [] [0, 3] [] [] ⟨[(0, (.v (.sl (List.map GFile.c c33_)), [])), (3, (.v (.int .i64 0), []))], [], []⟩ _ (by kernel_rfl) .nil ?_
  obtain ⟨out1, h32, h⟩ := obind h
  refine Wc.lastJ (fun st => out1 = .done () ∧ st = ⟨[(0, (.v (.sl (List.map GFile.c c33_)), []))], [], []⟩) ?_ ?_
  · refine Wc.block ?_
    refine Wc.loop (fun m st => ∃ (b34_ : Int), st = ⟨[(0, (.v (.sl (List.map GFile.c c33_)), [])), (3, (.v (.int .i64 b34_), []))], [], []⟩ ∧ pspec_FilesOk_L1 k c33_ m b34_ = some out1) ?_ k ⟨_, rfl, h32⟩
    rintro m st ⟨b34_, rfl, h32⟩
    cases m with
    | zero => exact (onone h32).elim
    | succ m =>
      refine Wc.seq ?_
      refine Wc.seq ?_
      refine Wc.region [((none, []), none), ((none, []), none), ((some (.int .i64 (c33_.length : Int)), []), none)] [0, 3, 7] [] [] ⟨[(0, (.v (.sl (List.map GFile.c c33_)), [])), (3, (.v (.int .i64 b34_), [])), (7, (.v (.bool (decide (b34_ < (c33_.length : Int)))), []))], [], []⟩ _ (by kernel_rfl) (.cons (len_obl GFile.c c33_) .nil) ?_
      rcases oif h32 with ⟨h33, h32⟩ | ⟨h33, h32⟩
      · refine Wc.condT h33 (by kernel_rfl) ?_
        refine Wc.keep [0, 3] [] [] ⟨[(0, (.v (.sl (List.map GFile.c c33_)), [])), (3, (.v (.int .i64 b34_), []))], [], []⟩ (by kernel_rfl) ?_
        refine Wc.skip ?_
        refine Wc.seq ?_
        refine Wc.block ?_
        refine Wc.seq ?_
        obtain ⟨a35_, h34, h32⟩ := obind h32
        obtain ⟨d36_, h35, h32⟩ := obind h32
        rcases oif h32 with ⟨h36, h32⟩ | ⟨h36, h32⟩
        · refine Wc.draw hmix [((none, []), none), ((none, []), none), ((some (.vptr [.str a35_.gName, .str a35_.gText]), []), none), ((none, []), none), ((none, []), none), ((some (.bool d36_), []), none), ((none, []), none), ((none, []), some (.bool true))] [0, 3, 43] [] [] ⟨[(0, (.v (.sl (List.map GFile.c c33_)), [])), (3, (.v (.int .i64 b34_), [])), (43, (.v (.bool true), []))], [], []⟩ _ (by kernel_rfl) (.cons (at_obl (c := GFile.c) (GFile.c_eq a35_) GFile.c_len h34) (.cons (len_ok 1 [.str a35_.gName, .str a35_.gText]) (.cons (cspec_l16Name h35) (.cons (congrArg AV.bool h36) .nil)))) ?_
          refine Wc.condT rfl (by kernel_rfl) ?_
          refine Wc.seq ?_
          refine Wc.region [] [2] [] [] ⟨[(2, (.v (.bool false), []))], [], []⟩ _ (by kernel_rfl) .nil ?_
          refine Wc.ret ?_
          obtain rfl := Option.some.inj h32
          obtain rfl := Option.some.inj h
          exact ⟨.inl rfl, by kernel_rfl⟩
        · obtain ⟨a37_, h37, h32⟩ := obind h32
          rcases oif h32 with ⟨h38, h32⟩ | ⟨h38, h32⟩
          · refine Wc.draw hmix [((none, []), none), ((none, []), none), ((some (.vptr [.str a35_.gName, .str a35_.gText]), []), none), ((none, []), none), ((none, []), none), ((some (.bool d36_), []), none), ((none, []), none), ((none, []), some (.bool false)), ((none, []), none), ((none, []), none), ((some (.vptr [.str a37_.gName, .str a37_.gText]), []), none), ((none, []), none), ((none, []), none), ((none, []), none), ((none, []), none), ((none, []), none), ((none, []), some (.bool true))] [0, 3, 43] [] [] ⟨[(0, (.v (.sl (List.map GFile.c c33_)), [])), (3, (.v (.int .i64 b34_), [])), (43, (.v (.bool true), []))], [], []⟩ _ (by kernel_rfl) (.cons (at_obl (c := GFile.c) (GFile.c_eq a35_) GFile.c_len h34) (.cons (len_ok 1 [.str a35_.gName, .str a35_.gText]) (.cons (cspec_l16Name h35) (.cons (congrArg AV.bool h36) (.cons (at_obl (c := GFile.c) (GFile.c_eq a37_) GFile.c_len h37) (.cons (len_ok 1 [.str a37_.gText]) (.cons (congrArg AV.bool h38) .nil))))))) ?_
            refine Wc.condT rfl (by kernel_rfl) ?_
            refine Wc.seq ?_
            refine Wc.region [] [2] [] [] ⟨[(2, (.v (.bool false), []))], [], []⟩ _ (by kernel_rfl) .nil ?_
            refine Wc.ret ?_
            obtain rfl := Option.some.inj h32
            obtain rfl := Option.some.inj h
            exact ⟨.inl rfl, by kernel_rfl⟩
          · rcases oif h32 with ⟨h39, h32⟩ | ⟨h39, h32⟩
            · obtain ⟨a38_, h40, h32⟩ := obind h32
              obtain ⟨a39_, h41, h32⟩ := obind h32
              refine Wc.draw hmix [((none, []), none), ((none, []), none), ((some (.vptr [.str a35_.gName, .str a35_.gText]), []), none), ((none, []), none), ((none, []), none), ((some (.bool d36_), []), none), ((none, []), none), ((none, []), some (.bool false)), ((none, []), none), ((none, []), none), ((some (.vptr [.str a37_.gName, .str a37_.gText]), []), none), ((none, []), none), ((none, []), none), ((none, []), none), ((none, []), none), ((none, []), none), ((none, []), some (.bool false)), ((none, []), none), ((none, []), none), ((none, []), some (.bool true)), ((none, []), none), ((none, []), none), ((none, []), none), ((some (.vptr [.str a38_.gName, .str a38_.gText]), []), none), ((none, []), none), ((none, []), none), ((none, []), none), ((none, []), none), ((some (.vptr [.str a39_.gName, .str a39_.gText]), []), none)] [0, 3, 43] [] [] ⟨[(0, (.v (.sl (List.map GFile.c c33_)), [])), (3, (.v (.int .i64 b34_), [])), (43, (.v (.bool (!(sLt a38_.gName a39_.gName))), []))], [], []⟩ _ (by kernel_rfl) (.cons (at_obl (c := GFile.c) (GFile.c_eq a35_) GFile.c_len h34) (.cons (len_ok 1 [.str a35_.gName, .str a35_.gText]) (.cons (cspec_l16Name h35) (.cons (congrArg AV.bool h36) (.cons (at_obl (c := GFile.c) (GFile.c_eq a37_) GFile.c_len h37) (.cons (len_ok 1 [.str a37_.gText]) (.cons (congrArg AV.bool h38) (.cons (congrArg AV.bool h39) (.cons (at_obl (c := GFile.c) (GFile.c_eq a38_) GFile.c_len h40) (.cons (len_ok 1 [.str a38_.gName, .str a38_.gText]) (.cons (at_obl (c := GFile.c) (GFile.c_eq a39_) GFile.c_len h41) (.cons (len_ok 1 [.str a39_.gName, .str a39_.gText]) .nil)))))))))))) ?_
              rcases oif h32 with ⟨h42, h32⟩ | ⟨h42, h32⟩
              · refine Wc.condT h42 (by kernel_rfl) ?_
                refine Wc.seq ?_
                refine Wc.region [] [2] [] [] ⟨[(2, (.v (.bool false), []))], [], []⟩ _ (by kernel_rfl) .nil ?_
                refine Wc.ret ?_
                obtain rfl := Option.some.inj h32
                obtain rfl := Option.some.inj h
                exact ⟨.inl rfl, by kernel_rfl⟩
              · refine Wc.condF h42 (by kernel_rfl) ?_
                refine Wc.keep [0, 3] [] [] ⟨[(0, (.v (.sl (List.map GFile.c c33_)), [])), (3, (.v (.int .i64 b34_), []))], [], []⟩ (by kernel_rfl) ?_
                refine Wc.skip ?_
                refine Wc.region [] [0, 3] [] [] ⟨[(0, (.v (.sl (List.map GFile.c c33_)), [])), (3, (.v (.int .i64 (wr.i64 (b34_ + 1))), []))], [], []⟩ _ (by kernel_rfl) .nil ?_
                exact ⟨_, Nat.lt_succ_self _, _, rfl, h32⟩
            · refine Wc.draw hmix [((none, []), none), ((none, []), none), ((some (.vptr [.str a35_.gName, .str a35_.gText]), []), none), ((none, []), none), ((none, []), none), ((some (.bool d36_), []), none), ((none, []), none), ((none, []), some (.bool false)), ((none, []), none), ((none, []), none), ((some (.vptr [.str a37_.gName, .str a37_.gText]), []), none), ((none, []), none), ((none, []), none), ((none, []), none), ((none, []), none), ((none, []), none), ((none, []), some (.bool false)), ((none, []), none), ((none, []), none), ((none, []), some (.bool false))] [0, 3, 43] [] [] ⟨[(0, (.v (.sl (List.map GFile.c c33_)), [])), (3, (.v (.int .i64 b34_), [])), (43, (.v (.bool false), []))], [], []⟩ _ (by kernel_rfl) (.cons (at_obl (c := GFile.c) (GFile.c_eq a35_) GFile.c_len h34) (.cons (len_ok 1 [.str a35_.gName, .str a35_.gText]) (.cons (cspec_l16Name h35) (.cons (congrArg AV.bool h36) (.cons (at_obl (c := GFile.c) (GFile.c_eq a37_) GFile.c_len h37) (.cons (len_ok 1 [.str a37_.gText]) (.cons (congrArg AV.bool h38) (.cons (congrArg AV.bool h39) .nil)))))))) ?_
              refine Wc.condF rfl (by kernel_rfl) ?_
              refine Wc.keep [0, 3] [] [] ⟨[(0, (.v (.sl (List.map GFile.c c33_)), [])), (3, (.v (.int .i64 b34_), []))], [], []⟩ (by kernel_rfl) ?_
              refine Wc.skip ?_
              refine Wc.region [] [0, 3] [] [] ⟨[(0, (.v (.sl (List.map GFile.c c33_)), [])), (3, (.v (.int .i64 (wr.i64 (b34_ + 1))), []))], [], []⟩ _ (by kernel_rfl) .nil ?_
              exact ⟨_, Nat.lt_succ_self _, _, rfl, h32⟩
      · refine Wc.condF h33 (by kernel_rfl) ?_
        refine Wc.keep [0] [] [] ⟨[(0, (.v (.sl (List.map GFile.c c33_)), []))], [], []⟩ (by kernel_rfl) ?_
        refine Wc.exit ?_
        obtain rfl := Option.some.inj h32
        exact ⟨rfl, rfl⟩
  · rintro st ⟨rfl, rfl⟩
    refine Wc.seq ?_
    refine Wc.region [((none, []), none), ((some (.int .i64 (c33_.length : Int)), []), none)] [2] [] [] ⟨[(2, (.v (.bool (decide ((c33_.length : Int) ≤ 6))), []))], [], []⟩ _ (by kernel_rfl) (.cons (len_obl GFile.c c33_) .nil) ?_
    refine Wc.ret ?_
    obtain rfl := Option.some.inj h
    exact ⟨.inl rfl, by kernel_rfl⟩

/-- impl.within -/
def pimpl_within (k : Nat) (b40_ : Int) (b41_ : Int) (b42_ : Int) : Option Bool :=
  if (decide (b40_ ≥ b41_)) = true then
    some (decide (b40_ ≤ b42_))
  else
    some false
theorem cimpl_within {k : Nat} {b40_ : Int} {b41_ : Int} {b42_ : Int} {r : Bool} (h : pimpl_within k b40_ b41_ b42_ = some r) : FnC Try.prog 59 [.int .i64 b40_, .int .i64 b41_, .int .i64 b42_] (.bool r) [] := by
  refine FnC.of Try.func59 (rfl : Try.f59.body = some _) (Nat.le_of_ble_eq_true (by kernel_rfl)) ?_
  intro w0 X0
  unfold pimpl_within at h
  refine Wc.seq ?_
  refine Wc.region [] [0, 1, 2] [] [] ⟨[(0, (.v (.int .i64 b40_), [])), (1, (.v (.int .i64 b41_), [])), (2, (.v (.int .i64 b42_), []))], [], []⟩ _ (by kernel_rfl) .nil ?_
  refine Wc.seq ?_
  rcases oif h with ⟨h43, h⟩ | ⟨h43, h⟩
  · refine Wc.region [((none, []), none), ((none, []), none), ((none, []), none), ((none, []), some (.bool true))] [6] [] [] ⟨[(6, (.v (.bool (decide (b40_ ≤ b42_))), []))], [], []⟩ _ (by kernel_rfl) (.cons (congrArg AV.bool h43) .nil) ?_
    refine Wc.ret ?_
    obtain rfl := Option.some.inj h
    exact ⟨.inl rfl, by kernel_rfl⟩
  · refine Wc.region [((none, []), none), ((none, []), none), ((none, []), none), ((none, []), some (.bool false))] [6] [] [] ⟨[(6, (.v (.bool false), []))], [], []⟩ _ (by kernel_rfl) (.cons (congrArg AV.bool h43) .nil) ?_
    refine Wc.ret ?_
    obtain rfl := Option.some.inj h
    exact ⟨.inl rfl, by kernel_rfl⟩

/-- impl.lower -/
def pimpl_lower (k : Nat) (b45_ : Int) : Option Bool :=
  if (decide (b45_ ≥ 97)) = true then
    some (decide (b45_ ≤ 122))
  else
    some false
theorem cimpl_lower {k : Nat} {b45_ : Int} {r : Bool} (h : pimpl_lower k b45_ = some r) : FnC Try.prog 61 [.int .u8 b45_] (.bool r) [] := by
  refine FnC.of Try.func61 (rfl : Try.f61.body = some _) (Nat.le_of_ble_eq_true (by kernel_rfl)) ?_
  intro w0 X0
  unfold pimpl_lower at h
  refine Wc.seq ?_
  refine Wc.region [] [0] [] [] ⟨[(0, (.v (.int .u8 b45_), []))], [], []⟩ _ (by kernel_rfl) .nil ?_
  refine Wc.seq ?_
  rcases oif h with ⟨h44, h⟩ | ⟨h44, h⟩
  · refine Wc.region [((none, []), none), ((none, []), none), ((none, []), some (.bool true))] [2] [] [] ⟨[(2, (.v (.bool (decide (b45_ ≤ 122))), []))], [], []⟩ _ (by kernel_rfl) (.cons (congrArg AV.bool h44) .nil) ?_
    refine Wc.ret ?_
    obtain rfl := Option.some.inj h
    exact ⟨.inl rfl, by kernel_rfl⟩
  · refine Wc.region [((none, []), none), ((none, []), none), ((none, []), some (.bool false))] [2] [] [] ⟨[(2, (.v (.bool false), []))], [], []⟩ _ (by kernel_rfl) (.cons (congrArg AV.bool h44) .nil) ?_
    refine Wc.ret ?_
    obtain rfl := Option.some.inj h
    exact ⟨.inl rfl, by kernel_rfl⟩

def pimpl_run_on2_pimpl_lower_L1 (k : Nat) (e48_ : ByteArray) : Nat → Int → Option (Out Int Int)
  | 0, _ => none
  | m + 1, b50_ =>
    if (decide (b50_ < (e48_.size : Int))) = true then
      if 0 ≤ b50_ ∧ (b50_).toNat < e48_.size then
        (pimpl_lower k (bt e48_ b50_)).bind fun d52_ =>
        if d52_ = true then
          pimpl_run_on2_pimpl_lower_L1 k e48_ m (wr.i64 (b50_ + 1))
        else
          some (.done b50_)
      else none
    else
      some (.done b50_)
/-- impl.run -/
def pimpl_run_on2_pimpl_lower (k : Nat) (e48_ : ByteArray) (b49_ : Int) : Option Int :=
  (pimpl_run_on2_pimpl_lower_L1 k e48_ k b49_).bind fun out1 => match out1 with
  | .ret r => some r
  | .done b51_ =>
    some b51_
theorem cimpl_run_on2_pimpl_lower {k : Nat} {e48_ : ByteArray} {b49_ : Int} {r : Int} (h : pimpl_run_on2_pimpl_lower k e48_ b49_ = some r) : FnC Try.prog 60 [.str e48_, .int .i64 b49_, .func 61 []] (.int .i64 r) [] := by
  refine FnC.of Try.func60 (rfl : Try.f60.body = some _) (Nat.le_of_ble_eq_true (by kernel_rfl)) ?_
  intro w0 X0
  unfold pimpl_run_on2_pimpl_lower at h
  refine Wc.seq ?_
  refine Wc.region [] [0, 1, 2] [] [] ⟨[(0, (.v (.str e48_), [])), (1, (.v (.int .i64 b49_), [])), (2, (.v (.func 61 []), []))], [], []⟩ _ (by kernel_rfl) .nil ?_
  obtain ⟨out1, h47, h⟩ := obind h
  refine Wc.seqJ (fun st => ∃ (b51_ : Int), out1 = .done b51_ ∧ st = ⟨[(1, (.v (.int .i64 b51_), []))], [], []⟩) ?_ ?_
  · refine Wc.block ?_
    refine Wc.loop (fun m st => ∃ (b50_ : Int), st = ⟨[(0, (.v (.str e48_), [])), (1, (.v (.int .i64 b50_), [])), (2, (.v (.func 61 []), []))], [], []⟩ ∧ pimpl_run_on2_pimpl_lower_L1 k e48_ m b50_ = some out1) ?_ k ⟨_, rfl, h47⟩
    rintro m st ⟨b50_, rfl, h47⟩
    cases m with
    | zero => exact (onone h47).elim
    | succ m =>
      refine Wc.seq ?_
      refine Wc.seq ?_
      rcases oif h47 with ⟨h48, h47⟩ | ⟨h48, h47⟩
      · obtain ⟨h49, h47⟩ := oguard h47
        obtain ⟨d52_, h50, h47⟩ := obind h47
        refine Wc.region [((none, []), none), ((none, []), none), ((none, []), none), ((none, []), none), ((none, []), some (.bool true)), ((none, []), none), ((none, []), none), ((none, []), none), ((none, []), none), ((some (.bool d52_), []), none)] [0, 1, 2, 17] [] [] ⟨[(0, (.v (.str e48_), [])), (1, (.v (.int .i64 b50_), [])), (2, (.v (.func 61 []), [])), (17, (.v (.bool d52_), []))], [], []⟩ _ (by kernel_rfl) (.cons (congrArg AV.bool h48) (.cons h49 (.cons (cimpl_lower h50) .nil))) ?_
        rcases oif h47 with ⟨h51, h47⟩ | ⟨h51, h47⟩
        · refine Wc.condT h51 (by kernel_rfl) ?_
          refine Wc.keep [0, 1, 2] [] [] ⟨[(0, (.v (.str e48_), [])), (1, (.v (.int .i64 b50_), [])), (2, (.v (.func 61 []), []))], [], []⟩ (by kernel_rfl) ?_
          refine Wc.skip ?_
          refine Wc.block ?_
          refine Wc.region [] [0, 1, 2] [] [] ⟨[(0, (.v (.str e48_), [])), (1, (.v (.int .i64 (wr.i64 (b50_ + 1))), [])), (2, (.v (.func 61 []), []))], [], []⟩ _ (by kernel_rfl) .nil ?_
          exact ⟨_, Nat.lt_succ_self _, _, rfl, h47⟩
        · refine Wc.condF h51 (by kernel_rfl) ?_
          refine Wc.keep [1] [] [] ⟨[(1, (.v (.int .i64 b50_), []))], [], []⟩ (by kernel_rfl) ?_
          refine Wc.exit ?_
          obtain rfl := Option.some.inj h47
          exact ⟨_, rfl, rfl⟩
      · refine Wc.region [((none, []), none), ((none, []), none), ((none, []), none), ((none, []), none), ((none, []), some (.bool false))] [0, 1, 2, 17] [] [] ⟨[(0, (.v (.str e48_), [])), (1, (.v (.int .i64 b50_), [])), (2, (.v (.func 61 []), [])), (17, (.v (.bool false), []))], [], []⟩ _ (by kernel_rfl) (.cons (congrArg AV.bool h48) .nil) ?_
        refine Wc.condF rfl (by kernel_rfl) ?_
        refine Wc.keep [1] [] [] ⟨[(1, (.v (.int .i64 b50_), []))], [], []⟩ (by kernel_rfl) ?_
        refine Wc.exit ?_
        obtain rfl := Option.some.inj h47
        exact ⟨_, rfl, rfl⟩
  · rintro st ⟨b51_, rfl, rfl⟩
    refine Wc.seq ?_
    refine Wc.region [] [6] [] [] ⟨[(6, (.v (.int .i64 b51_), []))], [], []⟩ _ (by kernel_rfl) .nil ?_
    refine Wc.ret ?_
    obtain rfl := Option.some.inj h
    exact ⟨.inl rfl, by kernel_rfl⟩

/-- impl.fileName -/
def pimpl_fileName (k : Nat) (e46_ : ByteArray) : Option Bool :=
  (pimpl_within k (e46_.size : Int) 1 8).bind fun d47_ =>
  if d47_ = true then
    (pimpl_run_on2_pimpl_lower k e46_ 0).bind fun b53_ =>
    some (b53_ == (e46_.size : Int))
  else
    some false
theorem cimpl_fileName {k : Nat} {e46_ : ByteArray} {r : Bool} (h : pimpl_fileName k e46_ = some r) : FnC Try.prog 39 [.str e46_] (.bool r) [] := by
  refine FnC.of Try.func39 (rfl : Try.f39.body = some _) (Nat.le_of_ble_eq_true (by kernel_rfl)) ?_
  intro w0 X0
  unfold pimpl_fileName at h
  refine Wc.seq ?_
  refine Wc.region [] [0] [] [] ⟨[(0, (.v (.str e46_), []))], [], []⟩ _ (by kernel_rfl) .nil ?_
  refine Wc.seq ?_
  obtain ⟨d47_, h45, h⟩ := obind h
  rcases oif h with ⟨h46, h⟩ | ⟨h46, h⟩
  · obtain ⟨b53_, h52, h⟩ := obind h
    refine Wc.region [((none, []), none), ((none, []), none), ((some (.bool d47_), []), none), ((none, []), some (.bool true)), ((none, []), none), ((some (.int .i64 b53_), []), none)] [2] [] [] ⟨[(2, (.v (.bool (b53_ == (e46_.size : Int))), []))], [], []⟩ _ (by kernel_rfl) (.cons (cimpl_within h45) (.cons (congrArg AV.bool h46) (.cons (cimpl_run_on2_pimpl_lower h52) .nil))) ?_
    refine Wc.ret ?_
    obtain rfl := Option.some.inj h
    exact ⟨.inl rfl, by kernel_rfl⟩
  · refine Wc.region [((none, []), none), ((none, []), none), ((some (.bool d47_), []), none), ((none, []), some (.bool false))] [2] [] [] ⟨[(2, (.v (.bool false), []))], [], []⟩ _ (by kernel_rfl) (.cons (cimpl_within h45) (.cons (congrArg AV.bool h46) .nil)) ?_
    refine Wc.ret ?_
    obtain rfl := Option.some.inj h
    exact ⟨.inl rfl, by kernel_rfl⟩

def pimpl_FilesOk_L1 (k : Nat) (c49_ : List GFile) : Nat → Int → Option (Out Bool Unit)
  | 0, _ => none
  | m + 1, b50_ =>
    if (decide (b50_ < (c49_.length : Int))) = true then
      (at' c49_ b50_).bind fun a51_ =>
      (pimpl_fileName k a51_.gName).bind fun d52_ =>
      if (!d52_) = true then
        some (.ret false)
      else
        if (decide ((a51_.gText.size : Int) > 3000)) = true then
          some (.ret false)
        else
          if (decide (b50_ > 0)) = true then
            (at' c49_ (wr.i64 (b50_ - 1))).bind fun a53_ =>
            if (!(sLt a53_.gName a51_.gName)) = true then
              some (.ret false)
            else
              pimpl_FilesOk_L1 k c49_ m (wr.i64 (b50_ + 1))
          else
            pimpl_FilesOk_L1 k c49_ m (wr.i64 (b50_ + 1))
    else
      some (.done ())
/-- impl.FilesOk -/
def pimpl_FilesOk (k : Nat) (c49_ : List GFile) : Option Bool :=
  (pimpl_FilesOk_L1 k c49_ k 0).bind fun out1 => match out1 with
  | .ret r => some r
  | .done () =>
    some (decide ((c49_.length : Int) ≤ 6))
theorem cimpl_FilesOk {k : Nat} {c49_ : List GFile} {r : Bool} (h : pimpl_FilesOk k c49_ = some r) : FnC Try.prog 19 [.sl (List.map GFile.c c49_)] (.bool r) [] := by
  refine FnC.of Try.func19 (rfl : Try.f19.body = some _) (Nat.le_of_ble_eq_true (by kernel_rfl)) ?_
  intro w0 X0
  unfold pimpl_FilesOk at h
  refine Wc.seq ?_
  refine Wc.region [] [0] [] [] ⟨[(0, (.v (.sl (List.map GFile.c c49_)), []))], [], []⟩ _ (by kernel_rfl) .nil ?_
  refine Wc.seq ?_
  refine Wc.seq ?_
  refine Wc.region [((none, []), none), ((some (.int .i64 (c49_.length : Int)), []), none)] [0, 5, 6, 7] [] [] ⟨[(0, (.v (.sl (List.map GFile.c c49_)), [])), (5, (.v (.sl (List.map GFile.c c49_)), [])), (6, (.v (.int .i64 (c49_.length : Int)), [])), (7, (.v (.int .i64 0), []))], [], []⟩ _ (by kernel_rfl) (.cons (len_obl GFile.c c49_) .nil) ?_
  obtain ⟨out1, h48, h⟩ := obind h
  refine Wc.lastJ (fun st => out1 = .done () ∧ st = ⟨[(0, (.v (.sl (List.map GFile.c c49_)), []))], [], []⟩) ?_ ?_
  · refine Wc.block ?_
    refine Wc.loop (fun m st => ∃ (b50_ : Int), st = ⟨[(0, (.v (.sl (List.map GFile.c c49_)), [])), (5, (.v (.sl (List.map GFile.c c49_)), [])), (6, (.v (.int .i64 (c49_.length : Int)), [])), (7, (.v (.int .i64 b50_), []))], [], []⟩ ∧ pimpl_FilesOk_L1 k c49_ m b50_ = some out1) ?_ k ⟨_, rfl, h48⟩
    rintro m st ⟨b50_, rfl, h48⟩
    cases m with
    | zero => exact (onone h48).elim
    | succ m =>
      refine Wc.seq ?_
      refine Wc.region [] [0, 5, 6, 7, 8] [] [] ⟨[(0, (.v (.sl (List.map GFile.c c49_)), [])), (5, (.v (.sl (List.map GFile.c c49_)), [])), (6, (.v (.int .i64 (c49_.length : Int)), [])), (7, (.v (.int .i64 b50_), [])), (8, (.v (.bool (decide (b50_ < (c49_.length : Int)))), []))], [], []⟩ _ (by kernel_rfl) .nil ?_
      refine Wc.seq ?_
      rcases oif h48 with ⟨h49, h48⟩ | ⟨h49, h48⟩
      · refine Wc.condT h49 (by kernel_rfl) ?_
        refine Wc.keep [0, 5, 6, 7] [] [] ⟨[(0, (.v (.sl (List.map GFile.c c49_)), [])), (5, (.v (.sl (List.map GFile.c c49_)), [])), (6, (.v (.int .i64 (c49_.length : Int)), [])), (7, (.v (.int .i64 b50_), []))], [], []⟩ (by kernel_rfl) ?_
        refine Wc.skip ?_
        refine Wc.seq ?_
        refine Wc.block ?_
        refine Wc.seq ?_
        obtain ⟨a51_, h50, h48⟩ := obind h48
        refine Wc.region [((none, []), none), ((some (.vptr [.str a51_.gName, .str a51_.gText]), []), none)] [0, 3, 4, 5, 6, 7] [4] [] ⟨[(0, (.v (.sl (List.map GFile.c c49_)), [])), (3, (.v (.int .i64 b50_), [])), (4, (.ptr 4 0, [])), (5, (.v (.sl (List.map GFile.c c49_)), [])), (6, (.v (.int .i64 (c49_.length : Int)), [])), (7, (.v (.int .i64 b50_), []))], [(4, ([.str a51_.gName, .str a51_.gText], []))], []⟩ _ (by kernel_rfl) (.cons (at_obl (c := GFile.c) (GFile.c_eq a51_) GFile.c_len h50) (.cons (len_ok 2 [.str a51_.gName, .str a51_.gText]) .nil)) ?_
        refine Wc.seq ?_
        obtain ⟨d52_, h51, h48⟩ := obind h48
        rcases oif h48 with ⟨h52, h48⟩ | ⟨h52, h48⟩
        · refine Wc.draw hmix [((none, []), none), ((none, []), none), ((some (.bool d52_), []), none), ((none, []), none), ((none, []), some (.bool true))] [0, 5, 6, 7, 36] [] [] ⟨[(0, (.v (.sl (List.map GFile.c c49_)), [])), (5, (.v (.sl (List.map GFile.c c49_)), [])), (6, (.v (.int .i64 (c49_.length : Int)), [])), (7, (.v (.int .i64 b50_), [])), (36, (.v (.bool true), []))], [], []⟩ _ (by kernel_rfl) (.cons (cimpl_fileName h51) (.cons (congrArg AV.bool h52) .nil)) ?_
          refine Wc.condT rfl (by kernel_rfl) ?_
          refine Wc.seq ?_
          refine Wc.region [] [2] [] [] ⟨[(2, (.v (.bool false), []))], [], []⟩ _ (by kernel_rfl) .nil ?_
          refine Wc.ret ?_
          obtain rfl := Option.some.inj h48
          obtain rfl := Option.some.inj h
          exact ⟨.inl rfl, by kernel_rfl⟩
        · rcases oif h48 with ⟨h53, h48⟩ | ⟨h53, h48⟩
          · refine Wc.draw hmix [((none, []), none), ((none, []), none), ((some (.bool d52_), []), none), ((none, []), none), ((none, []), some (.bool false)), ((none, []), none), ((none, []), none), ((none, []), none), ((none, []), none), ((none, []), none), ((none, []), some (.bool true))] [0, 5, 6, 7, 36] [] [] ⟨[(0, (.v (.sl (List.map GFile.c c49_)), [])), (5, (.v (.sl (List.map GFile.c c49_)), [])), (6, (.v (.int .i64 (c49_.length : Int)), [])), (7, (.v (.int .i64 b50_), [])), (36, (.v (.bool true), []))], [], []⟩ _ (by kernel_rfl) (.cons (cimpl_fileName h51) (.cons (congrArg AV.bool h52) (.cons (congrArg AV.bool h53) .nil))) ?_
            refine Wc.condT rfl (by kernel_rfl) ?_
            refine Wc.seq ?_
            refine Wc.region [] [2] [] [] ⟨[(2, (.v (.bool false), []))], [], []⟩ _ (by kernel_rfl) .nil ?_
            refine Wc.ret ?_
            obtain rfl := Option.some.inj h48
            obtain rfl := Option.some.inj h
            exact ⟨.inl rfl, by kernel_rfl⟩
          · rcases oif h48 with ⟨h54, h48⟩ | ⟨h54, h48⟩
            · obtain ⟨a53_, h55, h48⟩ := obind h48
              refine Wc.draw hmix [((none, []), none), ((none, []), none), ((some (.bool d52_), []), none), ((none, []), none), ((none, []), some (.bool false)), ((none, []), none), ((none, []), none), ((none, []), none), ((none, []), none), ((none, []), none), ((none, []), some (.bool false)), ((none, []), none), ((none, []), none), ((none, []), some (.bool true)), ((none, []), none), ((none, []), none), ((none, []), none), ((some (.vptr [.str a53_.gName, .str a53_.gText]), []), none)] [0, 5, 6, 7, 36] [] [] ⟨[(0, (.v (.sl (List.map GFile.c c49_)), [])), (5, (.v (.sl (List.map GFile.c c49_)), [])), (6, (.v (.int .i64 (c49_.length : Int)), [])), (7, (.v (.int .i64 b50_), [])), (36, (.v (.bool (!(sLt a53_.gName a51_.gName))), []))], [], []⟩ _ (by kernel_rfl) (.cons (cimpl_fileName h51) (.cons (congrArg AV.bool h52) (.cons (congrArg AV.bool h53) (.cons (congrArg AV.bool h54) (.cons (at_obl (c := GFile.c) (GFile.c_eq a53_) GFile.c_len h55) (.cons (len_ok 1 [.str a53_.gName, .str a53_.gText]) .nil)))))) ?_
              rcases oif h48 with ⟨h56, h48⟩ | ⟨h56, h48⟩
              · refine Wc.condT h56 (by kernel_rfl) ?_
                refine Wc.seq ?_
                refine Wc.region [] [2] [] [] ⟨[(2, (.v (.bool false), []))], [], []⟩ _ (by kernel_rfl) .nil ?_
                refine Wc.ret ?_
                obtain rfl := Option.some.inj h48
                obtain rfl := Option.some.inj h
                exact ⟨.inl rfl, by kernel_rfl⟩
              · refine Wc.condF h56 (by kernel_rfl) ?_
                refine Wc.keep [0, 5, 6, 7] [] [] ⟨[(0, (.v (.sl (List.map GFile.c c49_)), [])), (5, (.v (.sl (List.map GFile.c c49_)), [])), (6, (.v (.int .i64 (c49_.length : Int)), [])), (7, (.v (.int .i64 b50_), []))], [], []⟩ (by kernel_rfl) ?_
                refine Wc.skip ?_
                refine Wc.region [] [0, 5, 6, 7] [] [] ⟨[(0, (.v (.sl (List.map GFile.c c49_)), [])), (5, (.v (.sl (List.map GFile.c c49_)), [])), (6, (.v (.int .i64 (c49_.length : Int)), [])), (7, (.v (.int .i64 (wr.i64 (b50_ + 1))), []))], [], []⟩ _ (by kernel_rfl) .nil ?_
                exact ⟨_, Nat.lt_succ_self _, _, rfl, h48⟩
            · refine Wc.draw hmix [((none, []), none), ((none, []), none), ((some (.bool d52_), []), none), ((none, []), none), ((none, []), some (.bool false)), ((none, []), none), ((none, []), none), ((none, []), none), ((none, []), none), ((none, []), none), ((none, []), some (.bool false)), ((none, []), none), ((none, []), none), ((none, []), some (.bool false))] [0, 5, 6, 7, 36] [] [] ⟨[(0, (.v (.sl (List.map GFile.c c49_)), [])), (5, (.v (.sl (List.map GFile.c c49_)), [])), (6, (.v (.int .i64 (c49_.length : Int)), [])), (7, (.v (.int .i64 b50_), [])), (36, (.v (.bool false), []))], [], []⟩ _ (by kernel_rfl) (.cons (cimpl_fileName h51) (.cons (congrArg AV.bool h52) (.cons (congrArg AV.bool h53) (.cons (congrArg AV.bool h54) .nil)))) ?_
              refine Wc.condF rfl (by kernel_rfl) ?_
              refine Wc.keep [0, 5, 6, 7] [] [] ⟨[(0, (.v (.sl (List.map GFile.c c49_)), [])), (5, (.v (.sl (List.map GFile.c c49_)), [])), (6, (.v (.int .i64 (c49_.length : Int)), [])), (7, (.v (.int .i64 b50_), []))], [], []⟩ (by kernel_rfl) ?_
              refine Wc.skip ?_
              refine Wc.region [] [0, 5, 6, 7] [] [] ⟨[(0, (.v (.sl (List.map GFile.c c49_)), [])), (5, (.v (.sl (List.map GFile.c c49_)), [])), (6, (.v (.int .i64 (c49_.length : Int)), [])), (7, (.v (.int .i64 (wr.i64 (b50_ + 1))), []))], [], []⟩ _ (by kernel_rfl) .nil ?_
              exact ⟨_, Nat.lt_succ_self _, _, rfl, h48⟩
      · refine Wc.condF h49 (by kernel_rfl) ?_
        refine Wc.keep [0] [] [] ⟨[(0, (.v (.sl (List.map GFile.c c49_)), []))], [], []⟩ (by kernel_rfl) ?_
        refine Wc.exit ?_
        obtain rfl := Option.some.inj h48
        exact ⟨rfl, rfl⟩
  · rintro st ⟨rfl, rfl⟩
    refine Wc.seq ?_
    refine Wc.region [((none, []), none), ((some (.int .i64 (c49_.length : Int)), []), none)] [2] [] [] ⟨[(2, (.v (.bool (decide ((c49_.length : Int) ≤ 6))), []))], [], []⟩ _ (by kernel_rfl) (.cons (len_obl GFile.c c49_) .nil) ?_
    refine Wc.ret ?_
    obtain rfl := Option.some.inj h
    exact ⟨.inl rfl, by kernel_rfl⟩

/-- laws.FnExactFilesOk -/
def plaws_FnExactFilesOk (k : Nat) (c54_ : List GFile) : Option Bool :=
  (plaws_szFileS k c54_ 1048576).bind fun b55_ =>
  if (decide (b55_ < 0)) = true then
    some true
  else
    (plaws_toFileS k c54_).bind fun c56_ =>
    (pspec_FilesOk k c56_).bind fun d57_ =>
    (plaws_toFileS k c54_).bind fun c58_ =>
    (pimpl_FilesOk k c58_).bind fun d59_ =>
    if (!(d59_ == d57_)) = true then
      some false
    else
      (plaws_toFileS k c54_).bind fun c60_ =>
      (plaws_eqFileS k c58_ c60_).bind fun d61_ =>
      if (!d61_) = true then
        some false
      else
        some true
theorem claws_FnExactFilesOk {k : Nat} {c54_ : List GFile} {r : Bool} (h : plaws_FnExactFilesOk k c54_ = some r) : FnC Try.prog 5 [.sl (List.map GFile.c c54_)] (.bool r) [] := by
  refine FnC.of Try.func5 (rfl : Try.f5.body = some _) (Nat.le_of_ble_eq_true (by kernel_rfl)) ?_
  intro w0 X0
  unfold plaws_FnExactFilesOk at h
  refine Wc.seq ?_
  refine Wc.region [] [0] [] [] ⟨[(0, (.v (.sl (List.map GFile.c c54_)), []))], [], []⟩ _ (by kernel_rfl) .nil ?_
  refine Wc.seq ?_
  refine Wc.region [] [0, 3] [] [] ⟨[(0, (.v (.sl (List.map GFile.c c54_)), [])), (3, (.v (.int .i64 1048576), []))], [], []⟩ _ (by kernel_rfl) .nil ?_
  refine Wc.seq ?_
  obtain ⟨b55_, h57, h⟩ := obind h
  refine Wc.region [((none, []), none), ((none, []), none), ((some (.int .i64 b55_), []), none)] [0, 3] [] [] ⟨[(0, (.v (.sl (List.map GFile.c c54_)), [])), (3, (.v (.int .i64 b55_), []))], [], []⟩ _ (by kernel_rfl) (.cons (claws_szFileS h57) .nil) ?_
  refine Wc.seq ?_
  refine Wc.seq ?_
  refine Wc.region [] [0, 11] [] [] ⟨[(0, (.v (.sl (List.map GFile.c c54_)), [])), (11, (.v (.bool (decide (b55_ < 0))), []))], [], []⟩ _ (by kernel_rfl) .nil ?_
  rcases oif h with ⟨h58, h⟩ | ⟨h58, h⟩
  · refine Wc.condT h58 (by kernel_rfl) ?_
    refine Wc.seq ?_
    refine Wc.region [] [2] [] [] ⟨[(2, (.v (.bool true), []))], [], []⟩ _ (by kernel_rfl) .nil ?_
    refine Wc.ret ?_
    obtain rfl := Option.some.inj h
    exact ⟨.inl rfl, by kernel_rfl⟩
  · refine Wc.condF h58 (by kernel_rfl) ?_
    refine Wc.keep [0] [] [] ⟨[(0, (.v (.sl (List.map GFile.c c54_)), []))], [], []⟩ (by kernel_rfl) ?_
    refine Wc.skip ?_
    refine Wc.seq ?_
    obtain ⟨c56_, h59, h⟩ := obind h
    obtain ⟨d57_, h60, h⟩ := obind h
    refine Wc.region [((none, []), none), ((some (.sl (List.map GFile.c c56_)), []), none), ((some (.bool d57_), []), none)] [0, 4] [] [] ⟨[(0, (.v (.sl (List.map GFile.c c54_)), [])), (4, (.v (.bool d57_), []))], [], []⟩ _ (by kernel_rfl) (.cons (claws_toFileS h59) (.cons (cspec_FilesOk h60) .nil)) ?_
    refine Wc.seq ?_
    obtain ⟨c58_, h61, h⟩ := obind h
    refine Wc.region [((none, []), none), ((some (.sl (List.map GFile.c c58_)), []), none)] [0, 4, 5] [] [] ⟨[(0, (.v (.sl (List.map GFile.c c54_)), [])), (4, (.v (.bool d57_), [])), (5, (.v (.sl (List.map GFile.c c58_)), []))], [], []⟩ _ (by kernel_rfl) (.cons (claws_toFileS h61) .nil) ?_
    refine Wc.seq ?_
    obtain ⟨d59_, h62, h⟩ := obind h
    refine Wc.region [((none, []), none), ((some (.bool d59_), []), none)] [0, 4, 5, 6] [] [] ⟨[(0, (.v (.sl (List.map GFile.c c54_)), [])), (4, (.v (.bool d57_), [])), (5, (.v (.sl (List.map GFile.c c58_)), [])), (6, (.v (.bool d59_), []))], [], []⟩ _ (by kernel_rfl) (.cons (cimpl_FilesOk h62) .nil) ?_
    refine Wc.seq ?_
    refine Wc.seq ?_
    refine Wc.region [] [0, 5, 21] [] [] ⟨[(0, (.v (.sl (List.map GFile.c c54_)), [])), (5, (.v (.sl (List.map GFile.c c58_)), [])), (21, (.v (.bool (!(d59_ == d57_))), []))], [], []⟩ _ (by kernel_rfl) .nil ?_
    rcases oif h with ⟨h63, h⟩ | ⟨h63, h⟩
    · refine Wc.condT h63 (by kernel_rfl) ?_
      refine Wc.seq ?_
      refine Wc.region [] [2] [] [] ⟨[(2, (.v (.bool false), []))], [], []⟩ _ (by kernel_rfl) .nil ?_
      refine Wc.ret ?_
      obtain rfl := Option.some.inj h
      exact ⟨.inl rfl, by kernel_rfl⟩
    · refine Wc.condF h63 (by kernel_rfl) ?_
      refine Wc.keep [0, 5] [] [] ⟨[(0, (.v (.sl (List.map GFile.c c54_)), [])), (5, (.v (.sl (List.map GFile.c c58_)), []))], [], []⟩ (by kernel_rfl) ?_
      refine Wc.skip ?_
      refine Wc.seq ?_
      refine Wc.seq ?_
      obtain ⟨c60_, h64, h⟩ := obind h
      obtain ⟨d61_, h65, h⟩ := obind h
      refine Wc.region [((none, []), none), ((none, []), none), ((some (.sl (List.map GFile.c c60_)), []), none), ((some (.bool d61_), []), none)] [26] [] [] ⟨[(26, (.v (.bool (!d61_)), []))], [], []⟩ _ (by kernel_rfl) (.cons (claws_toFileS h64) (.cons (claws_eqFileS h65) .nil)) ?_
      rcases oif h with ⟨h66, h⟩ | ⟨h66, h⟩
      · refine Wc.condT h66 (by kernel_rfl) ?_
        refine Wc.seq ?_
        refine Wc.region [] [2] [] [] ⟨[(2, (.v (.bool false), []))], [], []⟩ _ (by kernel_rfl) .nil ?_
        refine Wc.ret ?_
        obtain rfl := Option.some.inj h
        exact ⟨.inl rfl, by kernel_rfl⟩
      · refine Wc.condF h66 (by kernel_rfl) ?_
        refine Wc.keep [] [] [] ⟨[], [], []⟩ (by kernel_rfl) ?_
        refine Wc.skip ?_
        refine Wc.seq ?_
        refine Wc.region [] [2] [] [] ⟨[(2, (.v (.bool true), []))], [], []⟩ _ (by kernel_rfl) .nil ?_
        refine Wc.ret ?_
        obtain rfl := Option.some.inj h
        exact ⟨.inl rfl, by kernel_rfl⟩
end Go.Proofs.Ytbpenglnebpbcaa

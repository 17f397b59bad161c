/- What the functions do. -/
import Derived.Test.YtbpenglnebpbcaaTy
set_option linter.unusedVariables false
set_option linter.unusedSimpArgs false
namespace Go.Proofs.Ytbpenglnebpbcaa
open Go.RowKit Go.Av
/-- laws.szRequest -/
def plaws_szRequest (k : Nat) (a1_ : GRequest) (b2_ : Int) : Option Int :=
  if (decide ((wr.i64 (b2_ - (a1_.gName.size : Int))) < 0)) = true then
    some (-1)
  else
    if (decide ((wr.i64 ((wr.i64 (b2_ - (a1_.gName.size : Int))) - (a1_.gText.size : Int))) < 0)) = true then
      some (-1)
    else
      some (wr.i64 ((wr.i64 (b2_ - (a1_.gName.size : Int))) - (a1_.gText.size : Int)))
theorem claws_szRequest {k : Nat} {a1_ : GRequest} {b2_ : Int} {r : Int} (h : plaws_szRequest k a1_ b2_ = some r) : FnC Try.prog 9 [.agg [.int .i64 a1_.gKind, .str a1_.gName, .str a1_.gText], .int .i64 b2_] (.int .i64 r) [] := by
  refine FnC.of Try.func9 (rfl : Try.f9.body = some _) (Nat.le_of_ble_eq_true (by kernel_rfl)) ?_
  intro w0 X0
  unfold plaws_szRequest at h
  refine Wc.seq ?_
  refine Wc.region [] [1, 2] [2] [] ⟨[(1, (.v (.int .i64 b2_), [])), (2, (.ptr 2 0, []))], [(2, ([.int .i64 a1_.gKind, .str a1_.gName, .str a1_.gText], []))], []⟩ _ (by kernel_rfl) .nil ?_
  refine Wc.seq ?_
  refine Wc.region [] [1, 2] [2] [] ⟨[(1, (.v (.int .i64 (wr.i64 (b2_ - (a1_.gName.size : Int)))), [])), (2, (.ptr 2 0, []))], [(2, ([.int .i64 a1_.gKind, .str a1_.gName, .str a1_.gText], []))], []⟩ _ (by kernel_rfl) .nil ?_
  refine Wc.seq ?_
  refine Wc.seq ?_
  refine Wc.region [] [1, 2, 11] [2] [] ⟨[(1, (.v (.int .i64 (wr.i64 (b2_ - (a1_.gName.size : Int)))), [])), (2, (.ptr 2 0, [])), (11, (.v (.bool (decide ((wr.i64 (b2_ - (a1_.gName.size : Int))) < 0))), []))], [(2, ([.int .i64 a1_.gKind, .str a1_.gName, .str a1_.gText], []))], []⟩ _ (by kernel_rfl) .nil ?_
  rcases oif h with ⟨h1, h⟩ | ⟨h1, h⟩
  · refine Wc.condT h1 (by kernel_rfl) ?_
    refine Wc.seq ?_
    refine Wc.region [] [4] [] [] ⟨[(4, (.v (.int .i64 (-1)), []))], [], []⟩ _ (by kernel_rfl) .nil ?_
    refine Wc.ret ?_
    obtain rfl := Option.some.inj h
    exact ⟨.inl rfl, by kernel_rfl⟩
  · refine Wc.condF h1 (by kernel_rfl) ?_
    refine Wc.keep [1, 2] [2] [] ⟨[(1, (.v (.int .i64 (wr.i64 (b2_ - (a1_.gName.size : Int)))), [])), (2, (.ptr 2 0, []))], [(2, ([.int .i64 a1_.gKind, .str a1_.gName, .str a1_.gText], []))], []⟩ (by kernel_rfl) ?_
    refine Wc.skip ?_
    refine Wc.seq ?_
    refine Wc.region [] [1] [] [] ⟨[(1, (.v (.int .i64 (wr.i64 ((wr.i64 (b2_ - (a1_.gName.size : Int))) - (a1_.gText.size : Int)))), []))], [], []⟩ _ (by kernel_rfl) .nil ?_
    refine Wc.seq ?_
    refine Wc.seq ?_
    refine Wc.region [] [1, 18] [] [] ⟨[(1, (.v (.int .i64 (wr.i64 ((wr.i64 (b2_ - (a1_.gName.size : Int))) - (a1_.gText.size : Int)))), [])), (18, (.v (.bool (decide ((wr.i64 ((wr.i64 (b2_ - (a1_.gName.size : Int))) - (a1_.gText.size : Int))) < 0))), []))], [], []⟩ _ (by kernel_rfl) .nil ?_
    rcases oif h with ⟨h2, h⟩ | ⟨h2, h⟩
    · refine Wc.condT h2 (by kernel_rfl) ?_
      refine Wc.seq ?_
      refine Wc.region [] [4] [] [] ⟨[(4, (.v (.int .i64 (-1)), []))], [], []⟩ _ (by kernel_rfl) .nil ?_
      refine Wc.ret ?_
      obtain rfl := Option.some.inj h
      exact ⟨.inl rfl, by kernel_rfl⟩
    · refine Wc.condF h2 (by kernel_rfl) ?_
      refine Wc.keep [1] [] [] ⟨[(1, (.v (.int .i64 (wr.i64 ((wr.i64 (b2_ - (a1_.gName.size : Int))) - (a1_.gText.size : Int)))), []))], [], []⟩ (by kernel_rfl) ?_
      refine Wc.skip ?_
      refine Wc.seq ?_
      refine Wc.region [] [4] [] [] ⟨[(4, (.v (.int .i64 (wr.i64 ((wr.i64 (b2_ - (a1_.gName.size : Int))) - (a1_.gText.size : Int)))), []))], [], []⟩ _ (by kernel_rfl) .nil ?_
      refine Wc.ret ?_
      obtain rfl := Option.some.inj h
      exact ⟨.inl rfl, by kernel_rfl⟩

/-- spec.l05Small -/
def pspec_l05Small (k : Nat) (b3_ : Int) : Option Bool :=
  if (decide (b3_ ≥ 97)) = true then
    some (decide (b3_ ≤ 122))
  else
    some false
theorem cspec_l05Small {k : Nat} {b3_ : Int} {r : Bool} (h : pspec_l05Small k b3_ = some r) : FnC Try.prog 57 [.int .u8 b3_] (.bool r) [] := by
  refine FnC.of Try.func57 (rfl : Try.f57.body = some _) (Nat.le_of_ble_eq_true (by kernel_rfl)) ?_
  intro w0 X0
  unfold pspec_l05Small at h
  refine Wc.seq ?_
  refine Wc.region [] [0] [] [] ⟨[(0, (.v (.int .u8 b3_), []))], [], []⟩ _ (by kernel_rfl) .nil ?_
  refine Wc.seq ?_
  rcases oif h with ⟨h3, h⟩ | ⟨h3, h⟩
  · refine Wc.region [((none, []), none), ((none, []), none), ((none, []), some (.bool true))] [2] [] [] ⟨[(2, (.v (.bool (decide (b3_ ≤ 122))), []))], [], []⟩ _ (by kernel_rfl) (.cons (congrArg AV.bool h3) .nil) ?_
    refine Wc.ret ?_
    obtain rfl := Option.some.inj h
    exact ⟨.inl rfl, by kernel_rfl⟩
  · refine Wc.region [((none, []), none), ((none, []), none), ((none, []), some (.bool false))] [2] [] [] ⟨[(2, (.v (.bool false), []))], [], []⟩ _ (by kernel_rfl) (.cons (congrArg AV.bool h3) .nil) ?_
    refine Wc.ret ?_
    obtain rfl := Option.some.inj h
    exact ⟨.inl rfl, by kernel_rfl⟩

/-- spec.l01In -/
def pspec_l01In (k : Nat) (b4_ : Int) (b5_ : Int) (b6_ : Int) : Option Bool :=
  if (decide (b4_ ≥ b5_)) = true then
    some (decide (b4_ ≤ b6_))
  else
    some false
theorem cspec_l01In {k : Nat} {b4_ : Int} {b5_ : Int} {b6_ : Int} {r : Bool} (h : pspec_l01In k b4_ b5_ b6_ = some r) : FnC Try.prog 58 [.int .i64 b4_, .int .i64 b5_, .int .i64 b6_] (.bool r) [] := by
  refine FnC.of Try.func58 (rfl : Try.f58.body = some _) (Nat.le_of_ble_eq_true (by kernel_rfl)) ?_
  intro w0 X0
  unfold pspec_l01In at h
  refine Wc.seq ?_
  refine Wc.region [] [0, 1, 2] [] [] ⟨[(0, (.v (.int .i64 b4_), [])), (1, (.v (.int .i64 b5_), [])), (2, (.v (.int .i64 b6_), []))], [], []⟩ _ (by kernel_rfl) .nil ?_
  refine Wc.seq ?_
  rcases oif h with ⟨h4, h⟩ | ⟨h4, h⟩
  · refine Wc.region [((none, []), none), ((none, []), none), ((none, []), none), ((none, []), some (.bool true))] [6] [] [] ⟨[(6, (.v (.bool (decide (b4_ ≤ b6_))), []))], [], []⟩ _ (by kernel_rfl) (.cons (congrArg AV.bool h4) .nil) ?_
    refine Wc.ret ?_
    obtain rfl := Option.some.inj h
    exact ⟨.inl rfl, by kernel_rfl⟩
  · refine Wc.region [((none, []), none), ((none, []), none), ((none, []), none), ((none, []), some (.bool false))] [6] [] [] ⟨[(6, (.v (.bool false), []))], [], []⟩ _ (by kernel_rfl) (.cons (congrArg AV.bool h4) .nil) ?_
    refine Wc.ret ?_
    obtain rfl := Option.some.inj h
    exact ⟨.inl rfl, by kernel_rfl⟩

def pspec_l16Name_L1 (k : Nat) (c7_ : ByteArray) : Nat → Int → Option (Out Bool Unit)
  | 0, _ => none
  | m + 1, b8_ =>
    if (decide (b8_ < (c7_.size : Int))) = true then
      if 0 ≤ b8_ ∧ (b8_).toNat < c7_.size then
        (pspec_l05Small k (bt c7_ b8_)).bind fun d9_ =>
        if (!d9_) = true then
          some (.ret false)
        else
          pspec_l16Name_L1 k c7_ m (wr.i64 (b8_ + 1))
      else none
    else
      some (.done ())
/-- spec.l16Name -/
def pspec_l16Name (k : Nat) (c7_ : ByteArray) : Option Bool :=
  (pspec_l16Name_L1 k c7_ k 0).bind fun out1 => match out1 with
  | .ret r => some r
  | .done () =>
    (pspec_l01In k (c7_.size : Int) 1 8).bind fun d10_ =>
    some d10_
theorem cspec_l16Name {k : Nat} {c7_ : ByteArray} {r : Bool} (h : pspec_l16Name k c7_ = some r) : FnC Try.prog 38 [.str c7_] (.bool r) [] := by
  refine FnC.of Try.func38 (rfl : Try.f38.body = some _) (Nat.le_of_ble_eq_true (by kernel_rfl)) ?_
  intro w0 X0
  unfold pspec_l16Name at h
  refine Wc.seq ?_
  refine Wc.region [] [0] [] [] ⟨[(0, (.v (.str c7_), []))], [], []⟩ _ (by kernel_rfl) .nil ?_
  refine Wc.seq ?_
  refine Wc.seq ?_
  refine Wc.region [] [0, 3] [] [] ⟨[(0, (.v (.str c7_), [])), (3, (.v (.int .i64 0), []))], [], []⟩ _ (by kernel_rfl) .nil ?_
  obtain ⟨out1, h5, h⟩ := obind h
  refine Wc.lastJ (fun st => out1 = .done () ∧ st = ⟨[(0, (.v (.str c7_), []))], [], []⟩) ?_ ?_
  · refine Wc.block ?_
    refine Wc.loop (fun m st => ∃ (b8_ : Int), st = ⟨[(0, (.v (.str c7_), [])), (3, (.v (.int .i64 b8_), []))], [], []⟩ ∧ pspec_l16Name_L1 k c7_ m b8_ = some out1) ?_ k ⟨_, rfl, h5⟩
    rintro m st ⟨b8_, rfl, h5⟩
    cases m with
    | zero => exact (onone h5).elim
    | succ m =>
      refine Wc.seq ?_
      refine Wc.seq ?_
      refine Wc.region [] [0, 3, 7] [] [] ⟨[(0, (.v (.str c7_), [])), (3, (.v (.int .i64 b8_), [])), (7, (.v (.bool (decide (b8_ < (c7_.size : Int)))), []))], [], []⟩ _ (by kernel_rfl) .nil ?_
      rcases oif h5 with ⟨h6, h5⟩ | ⟨h6, h5⟩
      · refine Wc.condT h6 (by kernel_rfl) ?_
        refine Wc.keep [0, 3] [] [] ⟨[(0, (.v (.str c7_), [])), (3, (.v (.int .i64 b8_), []))], [], []⟩ (by kernel_rfl) ?_
        refine Wc.skip ?_
        refine Wc.seq ?_
        refine Wc.block ?_
        refine Wc.seq ?_
        obtain ⟨h7, h5⟩ := oguard h5
        obtain ⟨d9_, h8, h5⟩ := obind h5
        refine Wc.region [((none, []), none), ((none, []), none), ((none, []), none), ((some (.bool d9_), []), none)] [0, 3, 14] [] [] ⟨[(0, (.v (.str c7_), [])), (3, (.v (.int .i64 b8_), [])), (14, (.v (.bool (!d9_)), []))], [], []⟩ _ (by kernel_rfl) (.cons h7 (.cons (cspec_l05Small h8) .nil)) ?_
        rcases oif h5 with ⟨h9, h5⟩ | ⟨h9, h5⟩
        · refine Wc.condT h9 (by kernel_rfl) ?_
          refine Wc.seq ?_
          refine Wc.region [] [2] [] [] ⟨[(2, (.v (.bool false), []))], [], []⟩ _ (by kernel_rfl) .nil ?_
          refine Wc.ret ?_
          obtain rfl := Option.some.inj h5
          obtain rfl := Option.some.inj h
          exact ⟨.inl rfl, by kernel_rfl⟩
        · refine Wc.condF h9 (by kernel_rfl) ?_
          refine Wc.keep [0, 3] [] [] ⟨[(0, (.v (.str c7_), [])), (3, (.v (.int .i64 b8_), []))], [], []⟩ (by kernel_rfl) ?_
          refine Wc.skip ?_
          refine Wc.region [] [0, 3] [] [] ⟨[(0, (.v (.str c7_), [])), (3, (.v (.int .i64 (wr.i64 (b8_ + 1))), []))], [], []⟩ _ (by kernel_rfl) .nil ?_
          exact ⟨_, Nat.lt_succ_self _, _, rfl, h5⟩
      · refine Wc.condF h6 (by kernel_rfl) ?_
        refine Wc.keep [0] [] [] ⟨[(0, (.v (.str c7_), []))], [], []⟩ (by kernel_rfl) ?_
        refine Wc.exit ?_
        obtain rfl := Option.some.inj h5
        exact ⟨rfl, rfl⟩
  · rintro st ⟨rfl, rfl⟩
    refine Wc.seq ?_
    obtain ⟨d10_, h10, h⟩ := obind h
    refine Wc.region [((none, []), none), ((none, []), none), ((some (.bool d10_), []), none)] [2] [] [] ⟨[(2, (.v (.bool d10_), []))], [], []⟩ _ (by kernel_rfl) (.cons (cspec_l01In h10) .nil) ?_
    refine Wc.ret ?_
    obtain rfl := Option.some.inj h
    exact ⟨.inl rfl, by kernel_rfl⟩

/-- spec.RequestOk -/
def pspec_RequestOk (k : Nat) (a11_ : GRequest) : Option Bool :=
  if (a11_.gKind == 1) = true then
    (pspec_l16Name k a11_.gName).bind fun d12_ =>
    if d12_ = true then
      some (sEq a11_.gText (bs []))
    else
      some false
  else
    if (a11_.gKind == 2) = true then
      if (sEq a11_.gName (bs [])) = true then
        some (decide ((a11_.gText.size : Int) ≤ 3000))
      else
        some false
    else
      if (a11_.gKind == 3) = true then
        (pspec_l16Name k a11_.gName).bind fun d13_ =>
        if d13_ = true then
          some (decide ((a11_.gText.size : Int) ≤ 3000))
        else
          some false
      else
        some false
theorem cspec_RequestOk {k : Nat} {a11_ : GRequest} {r : Bool} (h : pspec_RequestOk k a11_ = some r) : FnC Try.prog 10 [.agg [.int .i64 a11_.gKind, .str a11_.gName, .str a11_.gText]] (.bool r) [] := by
  refine FnC.of Try.func10 (rfl : Try.f10.body = some _) (Nat.le_of_ble_eq_true (by kernel_rfl)) ?_
  intro w0 X0
  unfold pspec_RequestOk at h
  refine Wc.seq ?_
  refine Wc.region [] [1] [1] [] ⟨[(1, (.ptr 1 0, []))], [(1, ([.int .i64 a11_.gKind, .str a11_.gName, .str a11_.gText], []))], []⟩ _ (by kernel_rfl) .nil ?_
  refine Wc.seq ?_
  refine Wc.seq ?_
  refine Wc.region [] [1, 4] [1] [] ⟨[(1, (.ptr 1 0, [])), (4, (.v (.int .i64 a11_.gKind), []))], [(1, ([.int .i64 a11_.gKind, .str a11_.gName, .str a11_.gText], []))], []⟩ _ (by kernel_rfl) .nil ?_
  refine Wc.block ?_
  refine Wc.seq ?_
  refine Wc.region [] [1, 4, 5] [1] [] ⟨[(1, (.ptr 1 0, [])), (4, (.v (.int .i64 a11_.gKind), [])), (5, (.v (.bool (a11_.gKind == 1)), []))], [(1, ([.int .i64 a11_.gKind, .str a11_.gName, .str a11_.gText], []))], []⟩ _ (by kernel_rfl) .nil ?_
  rcases oif h with ⟨h11, h⟩ | ⟨h11, h⟩
  · refine Wc.condT h11 (by kernel_rfl) ?_
    refine Wc.seq ?_
    obtain ⟨d12_, h12, h⟩ := obind h
    rcases oif h with ⟨h13, h⟩ | ⟨h13, h⟩
    · refine Wc.region [((none, []), none), ((none, []), none), ((some (.bool d12_), []), none), ((none, []), some (.bool true))] [2] [] [] ⟨[(2, (.v (.bool (sEq a11_.gText (bs []))), []))], [], []⟩ _ (by kernel_rfl) (.cons (cspec_l16Name h12) (.cons (congrArg AV.bool h13) .nil)) ?_
      refine Wc.ret ?_
      obtain rfl := Option.some.inj h
      exact ⟨.inl rfl, by kernel_rfl⟩
    · refine Wc.region [((none, []), none), ((none, []), none), ((some (.bool d12_), []), none), ((none, []), some (.bool false))] [2] [] [] ⟨[(2, (.v (.bool false), []))], [], []⟩ _ (by kernel_rfl) (.cons (cspec_l16Name h12) (.cons (congrArg AV.bool h13) .nil)) ?_
      refine Wc.ret ?_
      obtain rfl := Option.some.inj h
      exact ⟨.inl rfl, by kernel_rfl⟩
  · refine Wc.condF h11 (by kernel_rfl) ?_
    refine Wc.seq ?_
    refine Wc.region [] [1, 4, 15] [1] [] ⟨[(1, (.ptr 1 0, [])), (4, (.v (.int .i64 a11_.gKind), [])), (15, (.v (.bool (a11_.gKind == 2)), []))], [(1, ([.int .i64 a11_.gKind, .str a11_.gName, .str a11_.gText], []))], []⟩ _ (by kernel_rfl) .nil ?_
    rcases oif h with ⟨h14, h⟩ | ⟨h14, h⟩
    · refine Wc.condT h14 (by kernel_rfl) ?_
      refine Wc.seq ?_
      rcases oif h with ⟨h15, h⟩ | ⟨h15, h⟩
      · refine Wc.region [((none, []), none), ((none, []), none), ((none, []), none), ((none, []), some (.bool true))] [2] [] [] ⟨[(2, (.v (.bool (decide ((a11_.gText.size : Int) ≤ 3000))), []))], [], []⟩ _ (by kernel_rfl) (.cons (congrArg AV.bool h15) .nil) ?_
        refine Wc.ret ?_
        obtain rfl := Option.some.inj h
        exact ⟨.inl rfl, by kernel_rfl⟩
      · refine Wc.region [((none, []), none), ((none, []), none), ((none, []), none), ((none, []), some (.bool false))] [2] [] [] ⟨[(2, (.v (.bool false), []))], [], []⟩ _ (by kernel_rfl) (.cons (congrArg AV.bool h15) .nil) ?_
        refine Wc.ret ?_
        obtain rfl := Option.some.inj h
        exact ⟨.inl rfl, by kernel_rfl⟩
    · refine Wc.condF h14 (by kernel_rfl) ?_
      refine Wc.seq ?_
      refine Wc.region [] [1, 26] [1] [] ⟨[(1, (.ptr 1 0, [])), (26, (.v (.bool (a11_.gKind == 3)), []))], [(1, ([.int .i64 a11_.gKind, .str a11_.gName, .str a11_.gText], []))], []⟩ _ (by kernel_rfl) .nil ?_
      rcases oif h with ⟨h16, h⟩ | ⟨h16, h⟩
      · refine Wc.condT h16 (by kernel_rfl) ?_
        refine Wc.seq ?_
        obtain ⟨d13_, h17, h⟩ := obind h
        rcases oif h with ⟨h18, h⟩ | ⟨h18, h⟩
        · refine Wc.region [((none, []), none), ((none, []), none), ((some (.bool d13_), []), none), ((none, []), some (.bool true))] [2] [] [] ⟨[(2, (.v (.bool (decide ((a11_.gText.size : Int) ≤ 3000))), []))], [], []⟩ _ (by kernel_rfl) (.cons (cspec_l16Name h17) (.cons (congrArg AV.bool h18) .nil)) ?_
          refine Wc.ret ?_
          obtain rfl := Option.some.inj h
          exact ⟨.inl rfl, by kernel_rfl⟩
        · refine Wc.region [((none, []), none), ((none, []), none), ((some (.bool d13_), []), none), ((none, []), some (.bool false))] [2] [] [] ⟨[(2, (.v (.bool false), []))], [], []⟩ _ (by kernel_rfl) (.cons (cspec_l16Name h17) (.cons (congrArg AV.bool h18) .nil)) ?_
          refine Wc.ret ?_
          obtain rfl := Option.some.inj h
          exact ⟨.inl rfl, by kernel_rfl⟩
      · refine Wc.condF h16 (by kernel_rfl) ?_
        refine Wc.keep [] [] [] ⟨[], [], []⟩ (by kernel_rfl) ?_
        refine Wc.skip ?_
        refine Wc.seq ?_
        refine Wc.region [] [2] [] [] ⟨[(2, (.v (.bool false), []))], [], []⟩ _ (by kernel_rfl) .nil ?_
        refine Wc.ret ?_
        obtain rfl := Option.some.inj h
        exact ⟨.inl rfl, by kernel_rfl⟩

/-- laws.toRequest -/
def plaws_toRequest (k : Nat) (a14_ : GRequest) : Option GRequest :=
  some a14_
theorem claws_toRequest {k : Nat} {a14_ : GRequest} {r : GRequest} (h : plaws_toRequest k a14_ = some r) : FnC Try.prog 11 [.agg [.int .i64 a14_.gKind, .str a14_.gName, .str a14_.gText]] (.agg [.int .i64 r.gKind, .str r.gName, .str r.gText]) [] := by
  refine FnC.of Try.func11 (rfl : Try.f11.body = some _) (Nat.le_of_ble_eq_true (by kernel_rfl)) ?_
  intro w0 X0
  unfold plaws_toRequest at h
  refine Wc.seq ?_
  refine Wc.region [] [1, 2] [1, 2] [] ⟨[(1, (.ptr 1 0, [])), (2, (.ptr 2 0, []))], [(1, ([.int .i64 a14_.gKind, .str a14_.gName, .str a14_.gText], [])), (2, ([.int .i64 0, .str (bs []), .str (bs [])], []))], []⟩ _ (by kernel_rfl) .nil ?_
  refine Wc.seq ?_
  refine Wc.region [] [1, 2, 3] [1, 2, 3] [] ⟨[(1, (.ptr 1 0, [])), (2, (.ptr 2 0, [])), (3, (.ptr 3 0, []))], [(1, ([.int .i64 a14_.gKind, .str a14_.gName, .str a14_.gText], [])), (2, ([.int .i64 0, .str (bs []), .str (bs [])], [])), (3, ([.int .i64 0, .str (bs []), .str (bs [])], []))], []⟩ _ (by kernel_rfl) .nil ?_
  refine Wc.seq ?_
  refine Wc.region [] [1, 2, 3] [1, 2, 3] [] ⟨[(1, (.ptr 1 0, [])), (2, (.ptr 2 0, [])), (3, (.ptr 3 0, []))], [(1, ([.int .i64 a14_.gKind, .str a14_.gName, .str a14_.gText], [])), (2, ([.int .i64 0, .str (bs []), .str (bs [])], [])), (3, ([.int .i64 a14_.gKind, .str (bs []), .str (bs [])], []))], []⟩ _ (by kernel_rfl) .nil ?_
  refine Wc.seq ?_
  refine Wc.region [] [1, 2, 3] [1, 2, 3] [] ⟨[(1, (.ptr 1 0, [])), (2, (.ptr 2 0, [])), (3, (.ptr 3 0, []))], [(1, ([.int .i64 a14_.gKind, .str a14_.gName, .str a14_.gText], [])), (2, ([.int .i64 0, .str (bs []), .str (bs [])], [])), (3, ([.int .i64 a14_.gKind, .str a14_.gName, .str (bs [])], []))], []⟩ _ (by kernel_rfl) .nil ?_
  refine Wc.seq ?_
  refine Wc.region [] [2, 3] [2, 3] [] ⟨[(2, (.ptr 2 0, [])), (3, (.ptr 3 0, []))], [(2, ([.int .i64 0, .str (bs []), .str (bs [])], [])), (3, ([.int .i64 a14_.gKind, .str a14_.gName, .str a14_.gText], []))], []⟩ _ (by kernel_rfl) .nil ?_
  refine Wc.seq ?_
  refine Wc.region [] [2] [2] [] ⟨[(2, (.ptr 2 0, []))], [(2, ([.int .i64 a14_.gKind, .str a14_.gName, .str a14_.gText], []))], []⟩ _ (by kernel_rfl) .nil ?_
  refine Wc.ret ?_
  obtain rfl := Option.some.inj h
  exact ⟨.inl rfl, by kernel_rfl⟩

/-- impl.within -/
def pimpl_within (k : Nat) (b15_ : Int) (b16_ : Int) (b17_ : Int) : Option Bool :=
  if (decide (b15_ ≥ b16_)) = true then
    some (decide (b15_ ≤ b17_))
  else
    some false
theorem cimpl_within {k : Nat} {b15_ : Int} {b16_ : Int} {b17_ : Int} {r : Bool} (h : pimpl_within k b15_ b16_ b17_ = some r) : FnC Try.prog 59 [.int .i64 b15_, .int .i64 b16_, .int .i64 b17_] (.bool r) [] := by
  refine FnC.of Try.func59 (rfl : Try.f59.body = some _) (Nat.le_of_ble_eq_true (by kernel_rfl)) ?_
  intro w0 X0
  unfold pimpl_within at h
  refine Wc.seq ?_
  refine Wc.region [] [0, 1, 2] [] [] ⟨[(0, (.v (.int .i64 b15_), [])), (1, (.v (.int .i64 b16_), [])), (2, (.v (.int .i64 b17_), []))], [], []⟩ _ (by kernel_rfl) .nil ?_
  refine Wc.seq ?_
  rcases oif h with ⟨h19, h⟩ | ⟨h19, h⟩
  · refine Wc.region [((none, []), none), ((none, []), none), ((none, []), none), ((none, []), some (.bool true))] [6] [] [] ⟨[(6, (.v (.bool (decide (b15_ ≤ b17_))), []))], [], []⟩ _ (by kernel_rfl) (.cons (congrArg AV.bool h19) .nil) ?_
    refine Wc.ret ?_
    obtain rfl := Option.some.inj h
    exact ⟨.inl rfl, by kernel_rfl⟩
  · refine Wc.region [((none, []), none), ((none, []), none), ((none, []), none), ((none, []), some (.bool false))] [6] [] [] ⟨[(6, (.v (.bool false), []))], [], []⟩ _ (by kernel_rfl) (.cons (congrArg AV.bool h19) .nil) ?_
    refine Wc.ret ?_
    obtain rfl := Option.some.inj h
    exact ⟨.inl rfl, by kernel_rfl⟩

/-- impl.lower -/
def pimpl_lower (k : Nat) (b20_ : Int) : Option Bool :=
  if (decide (b20_ ≥ 97)) = true then
    some (decide (b20_ ≤ 122))
  else
    some false
theorem cimpl_lower {k : Nat} {b20_ : Int} {r : Bool} (h : pimpl_lower k b20_ = some r) : FnC Try.prog 61 [.int .u8 b20_] (.bool r) [] := by
  refine FnC.of Try.func61 (rfl : Try.f61.body = some _) (Nat.le_of_ble_eq_true (by kernel_rfl)) ?_
  intro w0 X0
  unfold pimpl_lower at h
  refine Wc.seq ?_
  refine Wc.region [] [0] [] [] ⟨[(0, (.v (.int .u8 b20_), []))], [], []⟩ _ (by kernel_rfl) .nil ?_
  refine Wc.seq ?_
  rcases oif h with ⟨h20, h⟩ | ⟨h20, h⟩
  · refine Wc.region [((none, []), none), ((none, []), none), ((none, []), some (.bool true))] [2] [] [] ⟨[(2, (.v (.bool (decide (b20_ ≤ 122))), []))], [], []⟩ _ (by kernel_rfl) (.cons (congrArg AV.bool h20) .nil) ?_
    refine Wc.ret ?_
    obtain rfl := Option.some.inj h
    exact ⟨.inl rfl, by kernel_rfl⟩
  · refine Wc.region [((none, []), none), ((none, []), none), ((none, []), some (.bool false))] [2] [] [] ⟨[(2, (.v (.bool false), []))], [], []⟩ _ (by kernel_rfl) (.cons (congrArg AV.bool h20) .nil) ?_
    refine Wc.ret ?_
    obtain rfl := Option.some.inj h
    exact ⟨.inl rfl, by kernel_rfl⟩

def pimpl_run_on2_pimpl_lower_L1 (k : Nat) (c23_ : ByteArray) : Nat → Int → Option (Out Int Int)
  | 0, _ => none
  | m + 1, b25_ =>
    if (decide (b25_ < (c23_.size : Int))) = true then
      if 0 ≤ b25_ ∧ (b25_).toNat < c23_.size then
        (pimpl_lower k (bt c23_ b25_)).bind fun d27_ =>
        if d27_ = true then
          pimpl_run_on2_pimpl_lower_L1 k c23_ m (wr.i64 (b25_ + 1))
        else
          some (.done b25_)
      else none
    else
      some (.done b25_)
/-- impl.run -/
def pimpl_run_on2_pimpl_lower (k : Nat) (c23_ : ByteArray) (b24_ : Int) : Option Int :=
  (pimpl_run_on2_pimpl_lower_L1 k c23_ k b24_).bind fun out1 => match out1 with
  | .ret r => some r
  | .done b26_ =>
    some b26_
theorem cimpl_run_on2_pimpl_lower {k : Nat} {c23_ : ByteArray} {b24_ : Int} {r : Int} (h : pimpl_run_on2_pimpl_lower k c23_ b24_ = some r) : FnC Try.prog 60 [.str c23_, .int .i64 b24_, .func 61 []] (.int .i64 r) [] := by
  refine FnC.of Try.func60 (rfl : Try.f60.body = some _) (Nat.le_of_ble_eq_true (by kernel_rfl)) ?_
  intro w0 X0
  unfold pimpl_run_on2_pimpl_lower at h
  refine Wc.seq ?_
  refine Wc.region [] [0, 1, 2] [] [] ⟨[(0, (.v (.str c23_), [])), (1, (.v (.int .i64 b24_), [])), (2, (.v (.func 61 []), []))], [], []⟩ _ (by kernel_rfl) .nil ?_
  obtain ⟨out1, h23, h⟩ := obind h
  refine Wc.seqJ (fun st => ∃ (b26_ : Int), out1 = .done b26_ ∧ st = ⟨[(1, (.v (.int .i64 b26_), []))], [], []⟩) ?_ ?_
  · refine Wc.block ?_
    refine Wc.loop (fun m st => ∃ (b25_ : Int), st = ⟨[(0, (.v (.str c23_), [])), (1, (.v (.int .i64 b25_), [])), (2, (.v (.func 61 []), []))], [], []⟩ ∧ pimpl_run_on2_pimpl_lower_L1 k c23_ m b25_ = some out1) ?_ k ⟨_, rfl, h23⟩
    rintro m st ⟨b25_, rfl, h23⟩
    cases m with
    | zero => exact (onone h23).elim
    | succ m =>
      refine Wc.seq ?_
      refine Wc.seq ?_
      rcases oif h23 with ⟨h24, h23⟩ | ⟨h24, h23⟩
      · obtain ⟨h25, h23⟩ := oguard h23
        obtain ⟨d27_, h26, h23⟩ := obind h23
        refine Wc.region [((none, []), none), ((none, []), none), ((none, []), none), ((none, []), none), ((none, []), some (.bool true)), ((none, []), none), ((none, []), none), ((none, []), none), ((none, []), none), ((some (.bool d27_), []), none)] [0, 1, 2, 17] [] [] ⟨[(0, (.v (.str c23_), [])), (1, (.v (.int .i64 b25_), [])), (2, (.v (.func 61 []), [])), (17, (.v (.bool d27_), []))], [], []⟩ _ (by kernel_rfl) (.cons (congrArg AV.bool h24) (.cons h25 (.cons (cimpl_lower h26) .nil))) ?_
        rcases oif h23 with ⟨h27, h23⟩ | ⟨h27, h23⟩
        · refine Wc.condT h27 (by kernel_rfl) ?_
          refine Wc.keep [0, 1, 2] [] [] ⟨[(0, (.v (.str c23_), [])), (1, (.v (.int .i64 b25_), [])), (2, (.v (.func 61 []), []))], [], []⟩ (by kernel_rfl) ?_
          refine Wc.skip ?_
          refine Wc.block ?_
          refine Wc.region [] [0, 1, 2] [] [] ⟨[(0, (.v (.str c23_), [])), (1, (.v (.int .i64 (wr.i64 (b25_ + 1))), [])), (2, (.v (.func 61 []), []))], [], []⟩ _ (by kernel_rfl) .nil ?_
          exact ⟨_, Nat.lt_succ_self _, _, rfl, h23⟩
        · refine Wc.condF h27 (by kernel_rfl) ?_
          refine Wc.keep [1] [] [] ⟨[(1, (.v (.int .i64 b25_), []))], [], []⟩ (by kernel_rfl) ?_
          refine Wc.exit ?_
          obtain rfl := Option.some.inj h23
          exact ⟨_, rfl, rfl⟩
      · refine Wc.region [((none, []), none), ((none, []), none), ((none, []), none), ((none, []), none), ((none, []), some (.bool false))] [0, 1, 2, 17] [] [] ⟨[(0, (.v (.str c23_), [])), (1, (.v (.int .i64 b25_), [])), (2, (.v (.func 61 []), [])), (17, (.v (.bool false), []))], [], []⟩ _ (by kernel_rfl) (.cons (congrArg AV.bool h24) .nil) ?_
        refine Wc.condF rfl (by kernel_rfl) ?_
        refine Wc.keep [1] [] [] ⟨[(1, (.v (.int .i64 b25_), []))], [], []⟩ (by kernel_rfl) ?_
        refine Wc.exit ?_
        obtain rfl := Option.some.inj h23
        exact ⟨_, rfl, rfl⟩
  · rintro st ⟨b26_, rfl, rfl⟩
    refine Wc.seq ?_
    refine Wc.region [] [6] [] [] ⟨[(6, (.v (.int .i64 b26_), []))], [], []⟩ _ (by kernel_rfl) .nil ?_
    refine Wc.ret ?_
    obtain rfl := Option.some.inj h
    exact ⟨.inl rfl, by kernel_rfl⟩

/-- impl.fileName -/
def pimpl_fileName (k : Nat) (c21_ : ByteArray) : Option Bool :=
  (pimpl_within k (c21_.size : Int) 1 8).bind fun d22_ =>
  if d22_ = true then
    (pimpl_run_on2_pimpl_lower k c21_ 0).bind fun b28_ =>
    some (b28_ == (c21_.size : Int))
  else
    some false
theorem cimpl_fileName {k : Nat} {c21_ : ByteArray} {r : Bool} (h : pimpl_fileName k c21_ = some r) : FnC Try.prog 39 [.str c21_] (.bool r) [] := by
  refine FnC.of Try.func39 (rfl : Try.f39.body = some _) (Nat.le_of_ble_eq_true (by kernel_rfl)) ?_
  intro w0 X0
  unfold pimpl_fileName at h
  refine Wc.seq ?_
  refine Wc.region [] [0] [] [] ⟨[(0, (.v (.str c21_), []))], [], []⟩ _ (by kernel_rfl) .nil ?_
  refine Wc.seq ?_
  obtain ⟨d22_, h21, h⟩ := obind h
  rcases oif h with ⟨h22, h⟩ | ⟨h22, h⟩
  · obtain ⟨b28_, h28, h⟩ := obind h
    refine Wc.region [((none, []), none), ((none, []), none), ((some (.bool d22_), []), none), ((none, []), some (.bool true)), ((none, []), none), ((some (.int .i64 b28_), []), none)] [2] [] [] ⟨[(2, (.v (.bool (b28_ == (c21_.size : Int))), []))], [], []⟩ _ (by kernel_rfl) (.cons (cimpl_within h21) (.cons (congrArg AV.bool h22) (.cons (cimpl_run_on2_pimpl_lower h28) .nil))) ?_
    refine Wc.ret ?_
    obtain rfl := Option.some.inj h
    exact ⟨.inl rfl, by kernel_rfl⟩
  · refine Wc.region [((none, []), none), ((none, []), none), ((some (.bool d22_), []), none), ((none, []), some (.bool false))] [2] [] [] ⟨[(2, (.v (.bool false), []))], [], []⟩ _ (by kernel_rfl) (.cons (cimpl_within h21) (.cons (congrArg AV.bool h22) .nil)) ?_
    refine Wc.ret ?_
    obtain rfl := Option.some.inj h
    exact ⟨.inl rfl, by kernel_rfl⟩

/-- impl.RequestOk -/
def pimpl_RequestOk (k : Nat) (a24_ : GRequest) : Option Bool :=
  if (a24_.gKind == 1) = true then
    (pimpl_fileName k a24_.gName).bind fun d25_ =>
    if d25_ = true then
      some (sEq a24_.gText (bs []))
    else
      some false
  else
    if (a24_.gKind == 2) = true then
      if (sEq a24_.gName (bs [])) = true then
        some (decide ((a24_.gText.size : Int) ≤ 3000))
      else
        some false
    else
      if (a24_.gKind == 3) = true then
        (pimpl_fileName k a24_.gName).bind fun d26_ =>
        if d26_ = true then
          some (decide ((a24_.gText.size : Int) ≤ 3000))
        else
          some false
      else
        some false
theorem cimpl_RequestOk {k : Nat} {a24_ : GRequest} {r : Bool} (h : pimpl_RequestOk k a24_ = some r) : FnC Try.prog 12 [.agg [.int .i64 a24_.gKind, .str a24_.gName, .str a24_.gText]] (.bool r) [] := by
  refine FnC.of Try.func12 (rfl : Try.f12.body = some _) (Nat.le_of_ble_eq_true (by kernel_rfl)) ?_
  intro w0 X0
  unfold pimpl_RequestOk at h
  refine Wc.seq ?_
  refine Wc.region [] [1] [1] [] ⟨[(1, (.ptr 1 0, []))], [(1, ([.int .i64 a24_.gKind, .str a24_.gName, .str a24_.gText], []))], []⟩ _ (by kernel_rfl) .nil ?_
  refine Wc.seq ?_
  refine Wc.seq ?_
  refine Wc.region [] [1, 4] [1] [] ⟨[(1, (.ptr 1 0, [])), (4, (.v (.int .i64 a24_.gKind), []))], [(1, ([.int .i64 a24_.gKind, .str a24_.gName, .str a24_.gText], []))], []⟩ _ (by kernel_rfl) .nil ?_
  refine Wc.block ?_
  refine Wc.seq ?_
  refine Wc.region [] [1, 4, 5] [1] [] ⟨[(1, (.ptr 1 0, [])), (4, (.v (.int .i64 a24_.gKind), [])), (5, (.v (.bool (a24_.gKind == 1)), []))], [(1, ([.int .i64 a24_.gKind, .str a24_.gName, .str a24_.gText], []))], []⟩ _ (by kernel_rfl) .nil ?_
  rcases oif h with ⟨h24, h⟩ | ⟨h24, h⟩
  · refine Wc.condT h24 (by kernel_rfl) ?_
    refine Wc.seq ?_
    obtain ⟨d25_, h25, h⟩ := obind h
    rcases oif h with ⟨h26, h⟩ | ⟨h26, h⟩
    · refine Wc.region [((none, []), none), ((none, []), none), ((some (.bool d25_), []), none), ((none, []), some (.bool true))] [2] [] [] ⟨[(2, (.v (.bool (sEq a24_.gText (bs []))), []))], [], []⟩ _ (by kernel_rfl) (.cons (cimpl_fileName h25) (.cons (congrArg AV.bool h26) .nil)) ?_
      refine Wc.ret ?_
      obtain rfl := Option.some.inj h
      exact ⟨.inl rfl, by kernel_rfl⟩
    · refine Wc.region [((none, []), none), ((none, []), none), ((some (.bool d25_), []), none), ((none, []), some (.bool false))] [2] [] [] ⟨[(2, (.v (.bool false), []))], [], []⟩ _ (by kernel_rfl) (.cons (cimpl_fileName h25) (.cons (congrArg AV.bool h26) .nil)) ?_
      refine Wc.ret ?_
      obtain rfl := Option.some.inj h
      exact ⟨.inl rfl, by kernel_rfl⟩
  · refine Wc.condF h24 (by kernel_rfl) ?_
    refine Wc.seq ?_
    refine Wc.region [] [1, 4, 15] [1] [] ⟨[(1, (.ptr 1 0, [])), (4, (.v (.int .i64 a24_.gKind), [])), (15, (.v (.bool (a24_.gKind == 2)), []))], [(1, ([.int .i64 a24_.gKind, .str a24_.gName, .str a24_.gText], []))], []⟩ _ (by kernel_rfl) .nil ?_
    rcases oif h with ⟨h27, h⟩ | ⟨h27, h⟩
    · refine Wc.condT h27 (by kernel_rfl) ?_
      refine Wc.seq ?_
      rcases oif h with ⟨h28, h⟩ | ⟨h28, h⟩
      · refine Wc.region [((none, []), none), ((none, []), none), ((none, []), none), ((none, []), some (.bool true))] [2] [] [] ⟨[(2, (.v (.bool (decide ((a24_.gText.size : Int) ≤ 3000))), []))], [], []⟩ _ (by kernel_rfl) (.cons (congrArg AV.bool h28) .nil) ?_
        refine Wc.ret ?_
        obtain rfl := Option.some.inj h
        exact ⟨.inl rfl, by kernel_rfl⟩
      · refine Wc.region [((none, []), none), ((none, []), none), ((none, []), none), ((none, []), some (.bool false))] [2] [] [] ⟨[(2, (.v (.bool false), []))], [], []⟩ _ (by kernel_rfl) (.cons (congrArg AV.bool h28) .nil) ?_
        refine Wc.ret ?_
        obtain rfl := Option.some.inj h
        exact ⟨.inl rfl, by kernel_rfl⟩
    · refine Wc.condF h27 (by kernel_rfl) ?_
      refine Wc.seq ?_
      refine Wc.region [] [1, 26] [1] [] ⟨[(1, (.ptr 1 0, [])), (26, (.v (.bool (a24_.gKind == 3)), []))], [(1, ([.int .i64 a24_.gKind, .str a24_.gName, .str a24_.gText], []))], []⟩ _ (by kernel_rfl) .nil ?_
      rcases oif h with ⟨h29, h⟩ | ⟨h29, h⟩
      · refine Wc.condT h29 (by kernel_rfl) ?_
        refine Wc.seq ?_
        obtain ⟨d26_, h30, h⟩ := obind h
        rcases oif h with ⟨h31, h⟩ | ⟨h31, h⟩
        · refine Wc.region [((none, []), none), ((none, []), none), ((some (.bool d26_), []), none), ((none, []), some (.bool true))] [2] [] [] ⟨[(2, (.v (.bool (decide ((a24_.gText.size : Int) ≤ 3000))), []))], [], []⟩ _ (by kernel_rfl) (.cons (cimpl_fileName h30) (.cons (congrArg AV.bool h31) .nil)) ?_
          refine Wc.ret ?_
          obtain rfl := Option.some.inj h
          exact ⟨.inl rfl, by kernel_rfl⟩
        · refine Wc.region [((none, []), none), ((none, []), none), ((some (.bool d26_), []), none), ((none, []), some (.bool false))] [2] [] [] ⟨[(2, (.v (.bool false), []))], [], []⟩ _ (by kernel_rfl) (.cons (cimpl_fileName h30) (.cons (congrArg AV.bool h31) .nil)) ?_
          refine Wc.ret ?_
          obtain rfl := Option.some.inj h
          exact ⟨.inl rfl, by kernel_rfl⟩
      · refine Wc.condF h29 (by kernel_rfl) ?_
        refine Wc.keep [] [] [] ⟨[], [], []⟩ (by kernel_rfl) ?_
        refine Wc.skip ?_
        refine Wc.seq ?_
        refine Wc.region [] [2] [] [] ⟨[(2, (.v (.bool false), []))], [], []⟩ _ (by kernel_rfl) .nil ?_
        refine Wc.ret ?_
        obtain rfl := Option.some.inj h
        exact ⟨.inl rfl, by kernel_rfl⟩

/-- laws.FnExactRequestOk -/
def plaws_FnExactRequestOk (k : Nat) (a27_ : GRequest) : Option Bool :=
  (plaws_szRequest k a27_ 1048576).bind fun b28_ =>
  if (decide (b28_ < 0)) = true then
    some true
  else
    (plaws_toRequest k a27_).bind fun a29_ =>
    (pspec_RequestOk k a29_).bind fun d30_ =>
    (plaws_toRequest k a27_).bind fun a31_ =>
    (pimpl_RequestOk k a31_).bind fun d32_ =>
    if (!(d32_ == d30_)) = true then
      some false
    else
      some true
theorem claws_FnExactRequestOk {k : Nat} {a27_ : GRequest} {r : Bool} (h : plaws_FnExactRequestOk k a27_ = some r) : FnC Try.prog 3 [.agg [.int .i64 a27_.gKind, .str a27_.gName, .str a27_.gText]] (.bool r) [] := by
  refine FnC.of Try.func3 (rfl : Try.f3.body = some _) (Nat.le_of_ble_eq_true (by kernel_rfl)) ?_
  intro w0 X0
  unfold plaws_FnExactRequestOk at h
  refine Wc.seq ?_
  refine Wc.region [] [1] [1] [] ⟨[(1, (.ptr 1 0, []))], [(1, ([.int .i64 a27_.gKind, .str a27_.gName, .str a27_.gText], []))], []⟩ _ (by kernel_rfl) .nil ?_
  refine Wc.seq ?_
  refine Wc.region [] [1, 3] [1] [] ⟨[(1, (.ptr 1 0, [])), (3, (.v (.int .i64 1048576), []))], [(1, ([.int .i64 a27_.gKind, .str a27_.gName, .str a27_.gText], []))], []⟩ _ (by kernel_rfl) .nil ?_
  refine Wc.seq ?_
  obtain ⟨b28_, h32, h⟩ := obind h
  refine Wc.region [((none, []), none), ((none, []), none), ((some (.int .i64 b28_), []), none)] [1, 3] [1] [] ⟨[(1, (.ptr 1 0, [])), (3, (.v (.int .i64 b28_), []))], [(1, ([.int .i64 a27_.gKind, .str a27_.gName, .str a27_.gText], []))], []⟩ _ (by kernel_rfl) (.cons (claws_szRequest h32) .nil) ?_
  refine Wc.seq ?_
  refine Wc.seq ?_
  refine Wc.region [] [1, 10] [1] [] ⟨[(1, (.ptr 1 0, [])), (10, (.v (.bool (decide (b28_ < 0))), []))], [(1, ([.int .i64 a27_.gKind, .str a27_.gName, .str a27_.gText], []))], []⟩ _ (by kernel_rfl) .nil ?_
  rcases oif h with ⟨h33, h⟩ | ⟨h33, h⟩
  · refine Wc.condT h33 (by kernel_rfl) ?_
    refine Wc.seq ?_
    refine Wc.region [] [2] [] [] ⟨[(2, (.v (.bool true), []))], [], []⟩ _ (by kernel_rfl) .nil ?_
    refine Wc.ret ?_
    obtain rfl := Option.some.inj h
    exact ⟨.inl rfl, by kernel_rfl⟩
  · refine Wc.condF h33 (by kernel_rfl) ?_
    refine Wc.keep [1] [1] [] ⟨[(1, (.ptr 1 0, []))], [(1, ([.int .i64 a27_.gKind, .str a27_.gName, .str a27_.gText], []))], []⟩ (by kernel_rfl) ?_
    refine Wc.skip ?_
    refine Wc.seq ?_
    obtain ⟨a29_, h34, h⟩ := obind h
    obtain ⟨d30_, h35, h⟩ := obind h
    refine Wc.region [((none, []), none), ((some (.agg [.int .i64 a29_.gKind, .str a29_.gName, .str a29_.gText]), []), none), ((some (.bool d30_), []), none)] [1, 4] [1] [] ⟨[(1, (.ptr 1 0, [])), (4, (.v (.bool d30_), []))], [(1, ([.int .i64 a27_.gKind, .str a27_.gName, .str a27_.gText], []))], []⟩ _ (by kernel_rfl) (.cons (claws_toRequest h34) (.cons (cspec_RequestOk h35) .nil)) ?_
    refine Wc.seq ?_
    obtain ⟨a31_, h36, h⟩ := obind h
    obtain ⟨d32_, h37, h⟩ := obind h
    refine Wc.region [((none, []), none), ((some (.agg [.int .i64 a31_.gKind, .str a31_.gName, .str a31_.gText]), []), none), ((some (.bool d32_), []), none)] [4, 5] [] [] ⟨[(4, (.v (.bool d30_), [])), (5, (.v (.bool d32_), []))], [], []⟩ _ (by kernel_rfl) (.cons (claws_toRequest h36) (.cons (cimpl_RequestOk h37) .nil)) ?_
    refine Wc.seq ?_
    refine Wc.seq ?_
    refine Wc.region [] [19] [] [] ⟨[(19, (.v (.bool (!(d32_ == d30_))), []))], [], []⟩ _ (by kernel_rfl) .nil ?_
    rcases oif h with ⟨h38, h⟩ | ⟨h38, h⟩
    · refine Wc.condT h38 (by kernel_rfl) ?_
      refine Wc.seq ?_
      refine Wc.region [] [2] [] [] ⟨[(2, (.v (.bool false), []))], [], []⟩ _ (by kernel_rfl) .nil ?_
      refine Wc.ret ?_
      obtain rfl := Option.some.inj h
      exact ⟨.inl rfl, by kernel_rfl⟩
    · refine Wc.condF h38 (by kernel_rfl) ?_
      refine Wc.keep [] [] [] ⟨[], [], []⟩ (by kernel_rfl) ?_
      refine Wc.skip ?_
      refine Wc.seq ?_
      refine Wc.region [] [2] [] [] ⟨[(2, (.v (.bool true), []))], [], []⟩ _ (by kernel_rfl) .nil ?_
      refine Wc.ret ?_
      obtain rfl := Option.some.inj h
      exact ⟨.inl rfl, by kernel_rfl⟩
end Go.Proofs.Ytbpenglnebpbcaa

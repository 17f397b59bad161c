/- What the functions do. -/
import Derived.Test.YthemaodhckmnkaaTy
set_option linter.unusedVariables false
set_option linter.unusedSimpArgs false
namespace Go.Proofs.Ythemaodhckmnkaa
open Go.RowKit Go.Bv
/-- laws.big -/
def plaws_big (k : Nat) (a1_ : List Int) : Option Bool :=
  some (decide ((a1_.length : Int) > 1048576))
theorem claws_big {k : Nat} {a1_ : List Int} {r : Bool} (h : plaws_big k a1_ = some r) : FnO Try.prog 8 [.v (.sl (List.map cI.u8 a1_)) []] (.v (.bool r) []) [] := by
  refine FnO.of Try.func8 (rfl : Try.f8.body = some _) (Nat.le_of_ble_eq_true (by kernel_rfl)) (Nat.le_of_ble_eq_true (by kernel_rfl)) ?_
  intro w0 X0 Fin pv0 pb gt
  unfold plaws_big at h
  refine Wc.seq ?_
  refine Wc.region [] [] [0] [] [] ⟨[(0, (.v (.sl (List.map cI.u8 a1_)), []))], [], []⟩ _ (by kernel_rfl) .nil ?_
  refine Wc.seq ?_
  refine Wc.region [{}, { v := some (.int .i64 (a1_.length : Int)) }] [] [2] [] [] ⟨[(2, (.v (.bool (decide ((a1_.length : Int) > 1048576))), []))], [], []⟩ _ (by kernel_rfl) (.cons (len_obl cI.u8 a1_) .nil) ?_
  refine Wc.ret ?_
  obtain rfl := Option.some.inj h
  exact ⟨.inl rfl, by kernel_rfl, by kernel_rfl⟩

/-- spec.l05Small -/
def pspec_l05Small (k : Nat) (b2_ : Int) : Option Bool :=
  if (decide (b2_ ≥ 97)) = true then
    some (decide (b2_ ≤ 122))
  else
    some false
theorem cspec_l05Small {k : Nat} {b2_ : Int} {r : Bool} (h : pspec_l05Small k b2_ = some r) : FnO Try.prog 127 [.v (.int .u8 b2_) []] (.v (.bool r) []) [] := by
  refine FnO.of Try.func127 (rfl : Try.f127.body = some _) (Nat.le_of_ble_eq_true (by kernel_rfl)) (Nat.le_of_ble_eq_true (by kernel_rfl)) ?_
  intro w0 X0 Fin pv0 pb gt
  unfold pspec_l05Small at h
  refine Wc.seq ?_
  refine Wc.region [] [] [0] [] [] ⟨[(0, (.v (.int .u8 b2_), []))], [], []⟩ _ (by kernel_rfl) .nil ?_
  refine Wc.seq ?_
  rcases oif h with ⟨h1, h⟩ | ⟨h1, h⟩
  · refine Wc.region [{}, {}, { re := some (.bool true) }] [] [2] [] [] ⟨[(2, (.v (.bool (decide (b2_ ≤ 122))), []))], [], []⟩ _ (by kernel_rfl) (.cons (congrArg AV.bool h1) .nil) ?_
    refine Wc.ret ?_
    obtain rfl := Option.some.inj h
    exact ⟨.inl rfl, by kernel_rfl, by kernel_rfl⟩
  · refine Wc.region [{}, {}, { re := some (.bool false) }] [] [2] [] [] ⟨[(2, (.v (.bool false), []))], [], []⟩ _ (by kernel_rfl) (.cons (congrArg AV.bool h1) .nil) ?_
    refine Wc.ret ?_
    obtain rfl := Option.some.inj h
    exact ⟨.inl rfl, by kernel_rfl, by kernel_rfl⟩

/-- spec.l01In -/
def pspec_l01In (k : Nat) (b3_ : Int) (b4_ : Int) (b5_ : Int) : Option Bool :=
  if (decide (b3_ ≥ b4_)) = true then
    some (decide (b3_ ≤ b5_))
  else
    some false
theorem cspec_l01In {k : Nat} {b3_ : Int} {b4_ : Int} {b5_ : Int} {r : Bool} (h : pspec_l01In k b3_ b4_ b5_ = some r) : FnO Try.prog 128 [.v (.int .i64 b3_) [], .v (.int .i64 b4_) [], .v (.int .i64 b5_) []] (.v (.bool r) []) [] := by
  refine FnO.of Try.func128 (rfl : Try.f128.body = some _) (Nat.le_of_ble_eq_true (by kernel_rfl)) (Nat.le_of_ble_eq_true (by kernel_rfl)) ?_
  intro w0 X0 Fin pv0 pb gt
  unfold pspec_l01In at h
  refine Wc.seq ?_
  refine Wc.region [] [] [0, 1, 2] [] [] ⟨[(0, (.v (.int .i64 b3_), [])), (1, (.v (.int .i64 b4_), [])), (2, (.v (.int .i64 b5_), []))], [], []⟩ _ (by kernel_rfl) .nil ?_
  refine Wc.seq ?_
  rcases oif h with ⟨h2, h⟩ | ⟨h2, h⟩
  · refine Wc.region [{}, {}, {}, { re := some (.bool true) }] [] [6] [] [] ⟨[(6, (.v (.bool (decide (b3_ ≤ b5_))), []))], [], []⟩ _ (by kernel_rfl) (.cons (congrArg AV.bool h2) .nil) ?_
    refine Wc.ret ?_
    obtain rfl := Option.some.inj h
    exact ⟨.inl rfl, by kernel_rfl, by kernel_rfl⟩
  · refine Wc.region [{}, {}, {}, { re := some (.bool false) }] [] [6] [] [] ⟨[(6, (.v (.bool false), []))], [], []⟩ _ (by kernel_rfl) (.cons (congrArg AV.bool h2) .nil) ?_
    refine Wc.ret ?_
    obtain rfl := Option.some.inj h
    exact ⟨.inl rfl, by kernel_rfl, by kernel_rfl⟩

def pspec_l16Name_L1 (k : Nat) (c6_ : ByteArray) : Nat → Int → Option (Out Bool Unit)
  | 0, _ => none
  | m + 1, b7_ =>
    if (decide (b7_ < (c6_.size : Int))) = true then
      if 0 ≤ b7_ ∧ (b7_).toNat < c6_.size then
        (pspec_l05Small k (bt c6_ b7_)).bind fun d8_ =>
        if (!d8_) = true then
          some (.ret false)
        else
          pspec_l16Name_L1 k c6_ m (wr.i64 (b7_ + 1))
      else none
    else
      some (.done ())
/-- spec.l16Name -/
def pspec_l16Name (k : Nat) (c6_ : ByteArray) : Option Bool :=
  (pspec_l16Name_L1 k c6_ k 0).bind fun out1 => match out1 with
  | .ret r => some r
  | .done () =>
    (pspec_l01In k (c6_.size : Int) 1 8).bind fun d9_ =>
    some d9_
theorem cspec_l16Name {k : Nat} {c6_ : ByteArray} {r : Bool} (h : pspec_l16Name k c6_ = some r) : FnO Try.prog 68 [.v (.str c6_) []] (.v (.bool r) []) [] := by
  refine FnO.of Try.func68 (rfl : Try.f68.body = some _) (Nat.le_of_ble_eq_true (by kernel_rfl)) (Nat.le_of_ble_eq_true (by kernel_rfl)) ?_
  intro w0 X0 Fin pv0 pb gt
  unfold pspec_l16Name at h
  refine Wc.seq ?_
  refine Wc.region [] [] [0] [] [] ⟨[(0, (.v (.str c6_), []))], [], []⟩ _ (by kernel_rfl) .nil ?_
  refine Wc.seq ?_
  refine Wc.seq ?_
  refine Wc.region [] [] [0, 3] [] [] ⟨[(0, (.v (.str c6_), [])), (3, (.v (.int .i64 0), []))], [], []⟩ _ (by kernel_rfl) .nil ?_
  obtain ⟨out1, h3, h⟩ := obind h
  refine Wc.lastJ (fun st => out1 = .done () ∧ st = ⟨[(0, (.v (.str c6_), []))], [], []⟩) ?_ ?_
  · refine Wc.block ?_
    refine Wc.loop (fun m st => ∃ (b7_ : Int), st = ⟨[(0, (.v (.str c6_), [])), (3, (.v (.int .i64 b7_), []))], [], []⟩ ∧ pspec_l16Name_L1 k c6_ m b7_ = some out1) ?_ k ⟨_, rfl, h3⟩
    rintro m st ⟨b7_, rfl, h3⟩
    cases m with
    | zero => exact (onone h3).elim
    | succ m =>
      refine Wc.seq ?_
      refine Wc.seq ?_
      refine Wc.region [] [] [0, 3, 7] [] [] ⟨[(0, (.v (.str c6_), [])), (3, (.v (.int .i64 b7_), [])), (7, (.v (.bool (decide (b7_ < (c6_.size : Int)))), []))], [], []⟩ _ (by kernel_rfl) .nil ?_
      rcases oif h3 with ⟨h4, h3⟩ | ⟨h4, h3⟩
      · refine Wc.condT h4 (by kernel_rfl) ?_
        refine Wc.fix (st' := ⟨[(0, (.v (.str c6_), [])), (3, (.v (.int .i64 b7_), []))], [], []⟩) [] [0, 3] [] [] (by kernel_rfl) ?_
        refine Wc.skip ?_
        refine Wc.seq ?_
        refine Wc.block ?_
        refine Wc.seq ?_
        obtain ⟨h5, h3⟩ := oguard h3
        obtain ⟨d8_, h6, h3⟩ := obind h3
        refine Wc.region [{}, {}, {}, { r := some (.v (.bool d8_) []) }] [] [0, 3, 14] [] [] ⟨[(0, (.v (.str c6_), [])), (3, (.v (.int .i64 b7_), [])), (14, (.v (.bool (!d8_)), []))], [], []⟩ _ (by kernel_rfl) (.cons h5 (.cons (cspec_l05Small h6) .nil)) ?_
        rcases oif h3 with ⟨h7, h3⟩ | ⟨h7, h3⟩
        · refine Wc.condT h7 (by kernel_rfl) ?_
          refine Wc.seq ?_
          refine Wc.region [] [] [2] [] [] ⟨[(2, (.v (.bool false), []))], [], []⟩ _ (by kernel_rfl) .nil ?_
          refine Wc.ret ?_
          obtain rfl := Option.some.inj h3
          obtain rfl := Option.some.inj h
          exact ⟨.inl rfl, by kernel_rfl, by kernel_rfl⟩
        · refine Wc.condF h7 (by kernel_rfl) ?_
          refine Wc.fix (st' := ⟨[(0, (.v (.str c6_), [])), (3, (.v (.int .i64 b7_), []))], [], []⟩) [] [0, 3] [] [] (by kernel_rfl) ?_
          refine Wc.skip ?_
          refine Wc.region [] [] [0, 3] [] [] ⟨[(0, (.v (.str c6_), [])), (3, (.v (.int .i64 (wr.i64 (b7_ + 1))), []))], [], []⟩ _ (by kernel_rfl) .nil ?_
          exact ⟨_, Nat.lt_succ_self _, _, rfl, h3⟩
      · refine Wc.condF h4 (by kernel_rfl) ?_
        refine Wc.fix (st' := ⟨[(0, (.v (.str c6_), []))], [], []⟩) [] [0] [] [] (by kernel_rfl) ?_
        refine Wc.exit ?_
        obtain rfl := Option.some.inj h3
        exact ⟨rfl, rfl⟩
  · rintro st ⟨rfl, rfl⟩
    refine Wc.seq ?_
    obtain ⟨d9_, h8, h⟩ := obind h
    refine Wc.region [{}, {}, { r := some (.v (.bool d9_) []) }] [] [2] [] [] ⟨[(2, (.v (.bool d9_), []))], [], []⟩ _ (by kernel_rfl) (.cons (cspec_l01In h8) .nil) ?_
    refine Wc.ret ?_
    obtain rfl := Option.some.inj h
    exact ⟨.inl rfl, by kernel_rfl, by kernel_rfl⟩

def pspec_FilesOk_L1 (k : Nat) (e10_ : List GFile) : Nat → Int → Option (Out Bool Unit)
  | 0, _ => none
  | m + 1, b11_ =>
    if (decide (b11_ < (e10_.length : Int))) = true then
      (at' e10_ b11_).bind fun f12_ =>
      (pspec_l16Name k f12_.gName).bind fun d13_ =>
      if (!d13_) = true then
        some (.ret false)
      else
        (at' e10_ b11_).bind fun f14_ =>
        if (decide ((f14_.gText.size : Int) > 3000)) = true then
          some (.ret false)
        else
          if (decide (b11_ > 0)) = true then
            (at' e10_ (wr.i64 (b11_ - 1))).bind fun f15_ =>
            (at' e10_ b11_).bind fun f16_ =>
            if (!(sLt f15_.gName f16_.gName)) = true then
              some (.ret false)
            else
              pspec_FilesOk_L1 k e10_ m (wr.i64 (b11_ + 1))
          else
            pspec_FilesOk_L1 k e10_ m (wr.i64 (b11_ + 1))
    else
      some (.done ())
/-- spec.FilesOk -/
def pspec_FilesOk (k : Nat) (e10_ : List GFile) : Option Bool :=
  (pspec_FilesOk_L1 k e10_ k 0).bind fun out1 => match out1 with
  | .ret r => some r
  | .done () =>
    some (decide ((e10_.length : Int) ≤ 6))
theorem cspec_FilesOk {k : Nat} {e10_ : List GFile} {r : Bool} (h : pspec_FilesOk k e10_ = some r) : FnO Try.prog 18 [.v (.sl (List.map GFile.c e10_)) []] (.v (.bool r) []) [] := by
  refine FnO.of Try.func18 (rfl : Try.f18.body = some _) (Nat.le_of_ble_eq_true (by kernel_rfl)) (Nat.le_of_ble_eq_true (by kernel_rfl)) ?_
  intro w0 X0 Fin pv0 pb gt
  unfold pspec_FilesOk at h
  refine Wc.seq ?_
  refine Wc.region [] [] [0] [] [] ⟨[(0, (.v (.sl (List.map GFile.c e10_)), []))], [], []⟩ _ (by kernel_rfl) .nil ?_
  refine Wc.seq ?_
  refine Wc.seq ?_
  refine Wc.region [] [] [0, 3] [] [] ⟨[(0, (.v (.sl (List.map GFile.c e10_)), [])), (3, (.v (.int .i64 0), []))], [], []⟩ _ (by kernel_rfl) .nil ?_
  obtain ⟨out1, h9, h⟩ := obind h
  refine Wc.lastJ (fun st => out1 = .done () ∧ st = ⟨[(0, (.v (.sl (List.map GFile.c e10_)), []))], [], []⟩) ?_ ?_
  · refine Wc.block ?_
    refine Wc.loop (fun m st => ∃ (b11_ : Int), st = ⟨[(0, (.v (.sl (List.map GFile.c e10_)), [])), (3, (.v (.int .i64 b11_), []))], [], []⟩ ∧ pspec_FilesOk_L1 k e10_ m b11_ = some out1) ?_ k ⟨_, rfl, h9⟩
    rintro m st ⟨b11_, rfl, h9⟩
    cases m with
    | zero => exact (onone h9).elim
    | succ m =>
      refine Wc.seq ?_
      refine Wc.seq ?_
      refine Wc.region [{}, {}, { v := some (.int .i64 (e10_.length : Int)) }] [] [0, 3, 7] [] [] ⟨[(0, (.v (.sl (List.map GFile.c e10_)), [])), (3, (.v (.int .i64 b11_), [])), (7, (.v (.bool (decide (b11_ < (e10_.length : Int)))), []))], [], []⟩ _ (by kernel_rfl) (.cons (len_obl GFile.c e10_) .nil) ?_
      rcases oif h9 with ⟨h10, h9⟩ | ⟨h10, h9⟩
      · refine Wc.condT h10 (by kernel_rfl) ?_
        refine Wc.fix (st' := ⟨[(0, (.v (.sl (List.map GFile.c e10_)), [])), (3, (.v (.int .i64 b11_), []))], [], []⟩) [] [0, 3] [] [] (by kernel_rfl) ?_
        refine Wc.skip ?_
        refine Wc.seq ?_
        refine Wc.block ?_
        refine Wc.seq ?_
        obtain ⟨f12_, h11, h9⟩ := obind h9
        obtain ⟨d13_, h12, h9⟩ := obind h9
        rcases oif h9 with ⟨h13, h9⟩ | ⟨h13, h9⟩
        · refine Wc.draw hmix [{}, {}, { v := some (.vptr [.str f12_.gName, .str f12_.gText]) }, {}, {}, { r := some (.v (.bool d13_) []) }, {}, { re := some (.bool true) }] [] [0, 3, 43] [] [] ⟨[(0, (.v (.sl (List.map GFile.c e10_)), [])), (3, (.v (.int .i64 b11_), [])), (43, (.v (.bool true), []))], [], []⟩ _ (by kernel_rfl) (fun X => by kernel_rfl) (.cons (at_obl (c := GFile.c) (GFile.c_eq f12_) GFile.c_len h11) (.cons (len_ok 1 [.str f12_.gName, .str f12_.gText]) (.cons (cspec_l16Name h12) (.cons (congrArg AV.bool h13) .nil)))) ?_
          refine Wc.condT rfl (by kernel_rfl) ?_
          refine Wc.seq ?_
          refine Wc.region [] [] [2] [] [] ⟨[(2, (.v (.bool false), []))], [], []⟩ _ (by kernel_rfl) .nil ?_
          refine Wc.ret ?_
          obtain rfl := Option.some.inj h9
          obtain rfl := Option.some.inj h
          exact ⟨.inl rfl, by kernel_rfl, by kernel_rfl⟩
        · obtain ⟨f14_, h14, h9⟩ := obind h9
          rcases oif h9 with ⟨h15, h9⟩ | ⟨h15, h9⟩
          · refine Wc.draw hmix [{}, {}, { v := some (.vptr [.str f12_.gName, .str f12_.gText]) }, {}, {}, { r := some (.v (.bool d13_) []) }, {}, { re := some (.bool false) }, {}, {}, { v := some (.vptr [.str f14_.gName, .str f14_.gText]) }, {}, {}, {}, {}, {}, { re := some (.bool true) }] [] [0, 3, 43] [] [] ⟨[(0, (.v (.sl (List.map GFile.c e10_)), [])), (3, (.v (.int .i64 b11_), [])), (43, (.v (.bool true), []))], [], []⟩ _ (by kernel_rfl) (fun X => by kernel_rfl) (.cons (at_obl (c := GFile.c) (GFile.c_eq f12_) GFile.c_len h11) (.cons (len_ok 1 [.str f12_.gName, .str f12_.gText]) (.cons (cspec_l16Name h12) (.cons (congrArg AV.bool h13) (.cons (at_obl (c := GFile.c) (GFile.c_eq f14_) GFile.c_len h14) (.cons (len_ok 1 [.str f14_.gText]) (.cons (congrArg AV.bool h15) .nil))))))) ?_
            refine Wc.condT rfl (by kernel_rfl) ?_
            refine Wc.seq ?_
            refine Wc.region [] [] [2] [] [] ⟨[(2, (.v (.bool false), []))], [], []⟩ _ (by kernel_rfl) .nil ?_
            refine Wc.ret ?_
            obtain rfl := Option.some.inj h9
            obtain rfl := Option.some.inj h
            exact ⟨.inl rfl, by kernel_rfl, by kernel_rfl⟩
          · rcases oif h9 with ⟨h16, h9⟩ | ⟨h16, h9⟩
            · obtain ⟨f15_, h17, h9⟩ := obind h9
              obtain ⟨f16_, h18, h9⟩ := obind h9
              refine Wc.draw hmix [{}, {}, { v := some (.vptr [.str f12_.gName, .str f12_.gText]) }, {}, {}, { r := some (.v (.bool d13_) []) }, {}, { re := some (.bool false) }, {}, {}, { v := some (.vptr [.str f14_.gName, .str f14_.gText]) }, {}, {}, {}, {}, {}, { re := some (.bool false) }, {}, {}, { re := some (.bool true) }, {}, {}, {}, { v := some (.vptr [.str f15_.gName, .str f15_.gText]) }, {}, {}, {}, {}, { v := some (.vptr [.str f16_.gName, .str f16_.gText]) }] [] [0, 3, 43] [] [] ⟨[(0, (.v (.sl (List.map GFile.c e10_)), [])), (3, (.v (.int .i64 b11_), [])), (43, (.v (.bool (!(sLt f15_.gName f16_.gName))), []))], [], []⟩ _ (by kernel_rfl) (fun X => by kernel_rfl) (.cons (at_obl (c := GFile.c) (GFile.c_eq f12_) GFile.c_len h11) (.cons (len_ok 1 [.str f12_.gName, .str f12_.gText]) (.cons (cspec_l16Name h12) (.cons (congrArg AV.bool h13) (.cons (at_obl (c := GFile.c) (GFile.c_eq f14_) GFile.c_len h14) (.cons (len_ok 1 [.str f14_.gText]) (.cons (congrArg AV.bool h15) (.cons (congrArg AV.bool h16) (.cons (at_obl (c := GFile.c) (GFile.c_eq f15_) GFile.c_len h17) (.cons (len_ok 1 [.str f15_.gName, .str f15_.gText]) (.cons (at_obl (c := GFile.c) (GFile.c_eq f16_) GFile.c_len h18) (.cons (len_ok 1 [.str f16_.gName, .str f16_.gText]) .nil)))))))))))) ?_
              rcases oif h9 with ⟨h19, h9⟩ | ⟨h19, h9⟩
              · refine Wc.condT h19 (by kernel_rfl) ?_
                refine Wc.seq ?_
                refine Wc.region [] [] [2] [] [] ⟨[(2, (.v (.bool false), []))], [], []⟩ _ (by kernel_rfl) .nil ?_
                refine Wc.ret ?_
                obtain rfl := Option.some.inj h9
                obtain rfl := Option.some.inj h
                exact ⟨.inl rfl, by kernel_rfl, by kernel_rfl⟩
              · refine Wc.condF h19 (by kernel_rfl) ?_
                refine Wc.fix (st' := ⟨[(0, (.v (.sl (List.map GFile.c e10_)), [])), (3, (.v (.int .i64 b11_), []))], [], []⟩) [] [0, 3] [] [] (by kernel_rfl) ?_
                refine Wc.skip ?_
                refine Wc.region [] [] [0, 3] [] [] ⟨[(0, (.v (.sl (List.map GFile.c e10_)), [])), (3, (.v (.int .i64 (wr.i64 (b11_ + 1))), []))], [], []⟩ _ (by kernel_rfl) .nil ?_
                exact ⟨_, Nat.lt_succ_self _, _, rfl, h9⟩
            · refine Wc.draw hmix [{}, {}, { v := some (.vptr [.str f12_.gName, .str f12_.gText]) }, {}, {}, { r := some (.v (.bool d13_) []) }, {}, { re := some (.bool false) }, {}, {}, { v := some (.vptr [.str f14_.gName, .str f14_.gText]) }, {}, {}, {}, {}, {}, { re := some (.bool false) }, {}, {}, { re := some (.bool false) }] [] [0, 3, 43] [] [] ⟨[(0, (.v (.sl (List.map GFile.c e10_)), [])), (3, (.v (.int .i64 b11_), [])), (43, (.v (.bool false), []))], [], []⟩ _ (by kernel_rfl) (fun X => by kernel_rfl) (.cons (at_obl (c := GFile.c) (GFile.c_eq f12_) GFile.c_len h11) (.cons (len_ok 1 [.str f12_.gName, .str f12_.gText]) (.cons (cspec_l16Name h12) (.cons (congrArg AV.bool h13) (.cons (at_obl (c := GFile.c) (GFile.c_eq f14_) GFile.c_len h14) (.cons (len_ok 1 [.str f14_.gText]) (.cons (congrArg AV.bool h15) (.cons (congrArg AV.bool h16) .nil)))))))) ?_
              refine Wc.condF rfl (by kernel_rfl) ?_
              refine Wc.fix (st' := ⟨[(0, (.v (.sl (List.map GFile.c e10_)), [])), (3, (.v (.int .i64 b11_), []))], [], []⟩) [] [0, 3] [] [] (by kernel_rfl) ?_
              refine Wc.skip ?_
              refine Wc.region [] [] [0, 3] [] [] ⟨[(0, (.v (.sl (List.map GFile.c e10_)), [])), (3, (.v (.int .i64 (wr.i64 (b11_ + 1))), []))], [], []⟩ _ (by kernel_rfl) .nil ?_
              exact ⟨_, Nat.lt_succ_self _, _, rfl, h9⟩
      · refine Wc.condF h10 (by kernel_rfl) ?_
        refine Wc.fix (st' := ⟨[(0, (.v (.sl (List.map GFile.c e10_)), []))], [], []⟩) [] [0] [] [] (by kernel_rfl) ?_
        refine Wc.exit ?_
        obtain rfl := Option.some.inj h9
        exact ⟨rfl, rfl⟩
  · rintro st ⟨rfl, rfl⟩
    refine Wc.seq ?_
    refine Wc.region [{}, { v := some (.int .i64 (e10_.length : Int)) }] [] [2] [] [] ⟨[(2, (.v (.bool (decide ((e10_.length : Int) ≤ 6))), []))], [], []⟩ _ (by kernel_rfl) (.cons (len_obl GFile.c e10_) .nil) ?_
    refine Wc.ret ?_
    obtain rfl := Option.some.inj h
    exact ⟨.inl rfl, by kernel_rfl, by kernel_rfl⟩

def pspec_Stored_J2 (k : Nat) (bk_ : (List GFile) → Bool → Int → Option (Out ((List GFile) × Bool) ((List GFile) × Bool))) (e37_ : List GFile) (c35_ : ByteArray) (c36_ : ByteArray) (e34_ : List GFile) (b39_ : Int) (d38_ : Bool) (d42_ : Bool) : Option (Out ((List GFile) × Bool) ((List GFile) × Bool)) :=
  if d42_ = true then
    if e37_.length + [GFile.mk c35_ c36_].length ≤ 1073741824 then
      (at' e34_ b39_).bind fun f43_ =>
      if (sEq f43_.gName c35_) = true then
        bk_ (e37_ ++ [GFile.mk c35_ c36_]) true (wr.i64 (b39_ + 1))
      else
        (at' e34_ b39_).bind fun f44_ =>
        if (e37_ ++ [GFile.mk c35_ c36_]).length + [f44_].length ≤ 1073741824 then
          bk_ ((e37_ ++ [GFile.mk c35_ c36_]) ++ [f44_]) true (wr.i64 (b39_ + 1))
        else none
    else none
  else
    (at' e34_ b39_).bind fun f45_ =>
    if e37_.length + [f45_].length ≤ 1073741824 then
      bk_ (e37_ ++ [f45_]) d38_ (wr.i64 (b39_ + 1))
    else none
def pspec_Stored_L1 (k : Nat) (e34_ : List GFile) (c35_ : ByteArray) (c36_ : ByteArray) : Nat → (List GFile) → Bool → Int → Option (Out ((List GFile) × Bool) ((List GFile) × Bool))
  | 0, _, _, _ => none
  | m + 1, e37_, d38_, b39_ =>
    if (decide (b39_ < (e34_.length : Int))) = true then
      if (!d38_) = true then
        (at' e34_ b39_).bind fun f46_ =>
        pspec_Stored_J2 k (pspec_Stored_L1 k e34_ c35_ c36_ m) e37_ c35_ c36_ e34_ b39_ d38_ (!(sLt f46_.gName c35_))
      else
        pspec_Stored_J2 k (pspec_Stored_L1 k e34_ c35_ c36_ m) e37_ c35_ c36_ e34_ b39_ d38_ false
    else
      some (.done (e37_, d38_))
def pspec_Stored_J4 (k : Nat) (e34_ : List GFile) (e47_ : List GFile) (d48_ : Bool) : Option ((List GFile) × Bool) :=
  if d48_ = true then
    if ([] : List GFile).length + e34_.length ≤ 1073741824 then
      some (e34_, false)
    else none
  else
    some (e47_, true)
def pspec_Stored_J3 (k : Nat) (e34_ : List GFile) (e47_ : List GFile) : Option ((List GFile) × Bool) :=
  (pspec_FilesOk k e47_).bind fun d49_ =>
  if (!d49_) = true then
    pspec_Stored_J4 k e34_ e47_ true
  else
    (pspec_FilesOk k e34_).bind fun d50_ =>
    pspec_Stored_J4 k e34_ e47_ (!d50_)
/-- spec.Stored -/
def pspec_Stored (k : Nat) (e34_ : List GFile) (c35_ : ByteArray) (c36_ : ByteArray) : Option ((List GFile) × Bool) :=
  (pspec_Stored_L1 k e34_ c35_ c36_ k [] false 0).bind fun out1 => match out1 with
  | .ret r => some r
  | .done (e40_, d41_) =>
    if (!d41_) = true then
      if e40_.length + [GFile.mk c35_ c36_].length ≤ 1073741824 then
        pspec_Stored_J3 k e34_ (e40_ ++ [GFile.mk c35_ c36_])
      else none
    else
      pspec_Stored_J3 k e34_ e40_
set_option maxHeartbeats 4000000 in
theorem cspec_Stored {k : Nat} {e34_ : List GFile} {c35_ : ByteArray} {c36_ : ByteArray} {r : (List GFile) × Bool} (h : pspec_Stored k e34_ c35_ c36_ = some r) : FnO Try.prog 13 [.v (.sl (List.map GFile.c e34_)) [], .v (.str c35_) [], .v (.str c36_) []] (.v (.tup [.sl (List.map GFile.c r.1), .bool r.2]) [(0, .app 31)]) [] := by
  refine FnO.of Try.func13 (rfl : Try.f13.body = some _) (Nat.le_of_ble_eq_true (by kernel_rfl)) (Nat.le_of_ble_eq_true (by kernel_rfl)) ?_
  intro w0 X0 Fin pv0 pb gt
  unfold pspec_Stored at h
  refine Wc.seq ?_
  refine Wc.region [] [] [0, 1, 2] [] [] ⟨[(0, (.v (.sl (List.map GFile.c e34_)), [])), (1, (.v (.str c35_), [])), (2, (.v (.str c36_), []))], [], []⟩ _ (by kernel_rfl) .nil ?_
  refine Wc.seq ?_
  refine Wc.region [{ c := some (List.map GFile.c []) }, { tk := [11] }] [] [0, 1, 2, 8] [] [] ⟨[(0, (.v (.sl (List.map GFile.c e34_)), [])), (1, (.v (.str c35_), [])), (2, (.v (.str c36_), [])), (8, (.v (.sl (List.map GFile.c [])), [(0, .app 31)]))], [], []⟩ _ (by kernel_rfl) (.cons (cl_nil GFile.c) .nil) ?_
  refine Wc.seq ?_
  refine Wc.region [] [] [0, 1, 2, 8, 9] [] [] ⟨[(0, (.v (.sl (List.map GFile.c e34_)), [])), (1, (.v (.str c35_), [])), (2, (.v (.str c36_), [])), (8, (.v (.sl (List.map GFile.c [])), [(0, .app 31)])), (9, (.v (.bool false), []))], [], []⟩ _ (by kernel_rfl) .nil ?_
  refine Wc.seq ?_
  refine Wc.seq ?_
  refine Wc.region [] [] [0, 1, 2, 8, 9, 10] [] [] ⟨[(0, (.v (.sl (List.map GFile.c e34_)), [])), (1, (.v (.str c35_), [])), (2, (.v (.str c36_), [])), (8, (.v (.sl (List.map GFile.c [])), [(0, .app 31)])), (9, (.v (.bool false), [])), (10, (.v (.int .i64 0), []))], [], []⟩ _ (by kernel_rfl) .nil ?_
  obtain ⟨out1, h39, h⟩ := obind h
  refine Wc.lastJ (fun st => ∃ (e40_ : List GFile) (d41_ : Bool), out1 = .done (e40_, d41_) ∧ st = ⟨[(0, (.v (.sl (List.map GFile.c e34_)), [])), (1, (.v (.str c35_), [])), (2, (.v (.str c36_), [])), (8, (.v (.sl (List.map GFile.c e40_)), [(0, .app 31)])), (9, (.v (.bool d41_), []))], [], []⟩) ?_ ?_
  · refine Wc.block ?_
    refine Wc.loop (fun m st => ∃ (e37_ : List GFile) (d38_ : Bool) (b39_ : Int), st = ⟨[(0, (.v (.sl (List.map GFile.c e34_)), [])), (1, (.v (.str c35_), [])), (2, (.v (.str c36_), [])), (8, (.v (.sl (List.map GFile.c e37_)), [(0, .app 31)])), (9, (.v (.bool d38_), [])), (10, (.v (.int .i64 b39_), []))], [], []⟩ ∧ pspec_Stored_L1 k e34_ c35_ c36_ m e37_ d38_ b39_ = some out1) ?_ k ⟨_, _, _, rfl, h39⟩
    rintro m st ⟨e37_, d38_, b39_, rfl, h39⟩
    cases m with
    | zero => exact (onone h39).elim
    | succ m =>
      refine Wc.seq ?_
      refine Wc.seq ?_
      refine Wc.region [{}, {}, { v := some (.int .i64 (e34_.length : Int)) }] [] [0, 1, 2, 8, 9, 10, 15] [] [] ⟨[(0, (.v (.sl (List.map GFile.c e34_)), [])), (1, (.v (.str c35_), [])), (2, (.v (.str c36_), [])), (8, (.v (.sl (List.map GFile.c e37_)), [(0, .app 31)])), (9, (.v (.bool d38_), [])), (10, (.v (.int .i64 b39_), [])), (15, (.v (.bool (decide (b39_ < (e34_.length : Int)))), []))], [], []⟩ _ (by kernel_rfl) (.cons (len_obl GFile.c e34_) .nil) ?_
      rcases oif h39 with ⟨h40, h39⟩ | ⟨h40, h39⟩
      · refine Wc.condT h40 (by kernel_rfl) ?_
        refine Wc.fix (st' := ⟨[(0, (.v (.sl (List.map GFile.c e34_)), [])), (1, (.v (.str c35_), [])), (2, (.v (.str c36_), [])), (8, (.v (.sl (List.map GFile.c e37_)), [(0, .app 31)])), (9, (.v (.bool d38_), [])), (10, (.v (.int .i64 b39_), []))], [], []⟩) [] [0, 1, 2, 8, 9, 10] [] [] (by kernel_rfl) ?_
        refine Wc.skip ?_
        refine Wc.seq ?_
        refine Wc.block ?_
        refine Wc.seq ?_
        refine Wc.seqJ (fun st => ∃ (d42_ : Bool), st = ⟨[(0, (.v (.sl (List.map GFile.c e34_)), [])), (1, (.v (.str c35_), [])), (2, (.v (.str c36_), [])), (8, (.v (.sl (List.map GFile.c e37_)), [(0, .app 31)])), (9, (.v (.bool d38_), [])), (10, (.v (.int .i64 b39_), [])), (28, (.v (.bool d42_), []))], [], []⟩ ∧ pspec_Stored_J2 k (pspec_Stored_L1 k e34_ c35_ c36_ m) e37_ c35_ c36_ e34_ b39_ d38_ d42_ = some out1) ?_ ?_
        · rcases oif h39 with ⟨h49, h39⟩ | ⟨h49, h39⟩
          · obtain ⟨f46_, h50, h39⟩ := obind h39
            refine Wc.region [{}, {}, { re := some (.bool true) }, {}, {}, { v := some (.vptr [.str f46_.gName, .str f46_.gText]) }] [] [0, 1, 2, 8, 9, 10, 28] [] [] ⟨[(0, (.v (.sl (List.map GFile.c e34_)), [])), (1, (.v (.str c35_), [])), (2, (.v (.str c36_), [])), (8, (.v (.sl (List.map GFile.c e37_)), [(0, .app 31)])), (9, (.v (.bool d38_), [])), (10, (.v (.int .i64 b39_), [])), (28, (.v (.bool (!(sLt f46_.gName c35_))), []))], [], []⟩ _ (by kernel_rfl) (.cons (congrArg AV.bool h49) (.cons (at_obl (c := GFile.c) (GFile.c_eq f46_) GFile.c_len h50) (.cons (len_ok 1 [.str f46_.gName, .str f46_.gText]) .nil))) ?_
            exact ⟨_, rfl, h39⟩
          · refine Wc.region [{}, {}, { re := some (.bool false) }] [] [0, 1, 2, 8, 9, 10, 28] [] [] ⟨[(0, (.v (.sl (List.map GFile.c e34_)), [])), (1, (.v (.str c35_), [])), (2, (.v (.str c36_), [])), (8, (.v (.sl (List.map GFile.c e37_)), [(0, .app 31)])), (9, (.v (.bool d38_), [])), (10, (.v (.int .i64 b39_), [])), (28, (.v (.bool false), []))], [], []⟩ _ (by kernel_rfl) (.cons (congrArg AV.bool h49) .nil) ?_
            exact ⟨_, rfl, h39⟩
        · rintro st ⟨d42_, rfl, h39⟩
          rcases oif h39 with ⟨h41, h39⟩ | ⟨h41, h39⟩
          · refine Wc.condT h41 (by kernel_rfl) ?_
            refine Wc.seq ?_
            obtain ⟨h42, h39⟩ := oguard h39
            refine Wc.region [{ tk := [8] }, {}, {}, {}, { c := some (List.map GFile.c [GFile.mk c35_ c36_]) }, { c := some (List.map GFile.c (e37_ ++ [GFile.mk c35_ c36_])), tk := [29] }, { tk := [34] }] [] [0, 1, 2, 8, 10] [] [] ⟨[(0, (.v (.sl (List.map GFile.c e34_)), [])), (1, (.v (.str c35_), [])), (2, (.v (.str c36_), [])), (8, (.v (.sl (List.map GFile.c (e37_ ++ [GFile.mk c35_ c36_]))), [(0, .app 31)])), (10, (.v (.int .i64 b39_), []))], [], []⟩ _ (by kernel_rfl) (.cons (cl_cons (c := GFile.c) (x := GFile.mk c35_ c36_) (GFile.c_eq (GFile.mk c35_ c36_)) (cl_nil GFile.c)) (.cons (app_re2 GFile.c e37_ [GFile.mk c35_ c36_]) (.cons (app_leaf (c := GFile.c) (ys := [GFile.mk c35_ c36_]) GFile.c_leaf) (.cons (app_obl2 (c := GFile.c) (xs := e37_) (ys := [GFile.mk c35_ c36_]) GFile.c_len h42) .nil)))) ?_
            refine Wc.seq ?_
            refine Wc.region [] [] [0, 1, 2, 8, 9, 10] [] [] ⟨[(0, (.v (.sl (List.map GFile.c e34_)), [])), (1, (.v (.str c35_), [])), (2, (.v (.str c36_), [])), (8, (.v (.sl (List.map GFile.c (e37_ ++ [GFile.mk c35_ c36_]))), [(0, .app 31)])), (9, (.v (.bool true), [])), (10, (.v (.int .i64 b39_), []))], [], []⟩ _ (by kernel_rfl) .nil ?_
            refine Wc.seq ?_
            obtain ⟨f43_, h43, h39⟩ := obind h39
            refine Wc.region [{}, {}, { v := some (.vptr [.str f43_.gName, .str f43_.gText]) }] [] [0, 1, 2, 8, 9, 10, 41] [] [] ⟨[(0, (.v (.sl (List.map GFile.c e34_)), [])), (1, (.v (.str c35_), [])), (2, (.v (.str c36_), [])), (8, (.v (.sl (List.map GFile.c (e37_ ++ [GFile.mk c35_ c36_]))), [(0, .app 31)])), (9, (.v (.bool true), [])), (10, (.v (.int .i64 b39_), [])), (41, (.v (.bool (sEq f43_.gName c35_)), []))], [], []⟩ _ (by kernel_rfl) (.cons (at_obl (c := GFile.c) (GFile.c_eq f43_) GFile.c_len h43) (.cons (len_ok 1 [.str f43_.gName, .str f43_.gText]) .nil)) ?_
            rcases oif h39 with ⟨h44, h39⟩ | ⟨h44, h39⟩
            · refine Wc.condT h44 (by kernel_rfl) ?_
              refine Wc.fix (st' := ⟨[(0, (.v (.sl (List.map GFile.c e34_)), [])), (1, (.v (.str c35_), [])), (2, (.v (.str c36_), [])), (8, (.v (.sl (List.map GFile.c (e37_ ++ [GFile.mk c35_ c36_]))), [(0, .app 31)])), (9, (.v (.bool true), [])), (10, (.v (.int .i64 b39_), []))], [], []⟩) [] [0, 1, 2, 8, 9, 10] [] [] (by kernel_rfl) ?_
              refine Wc.exit ?_
              refine Wc.region [] [] [0, 1, 2, 8, 9, 10] [] [] ⟨[(0, (.v (.sl (List.map GFile.c e34_)), [])), (1, (.v (.str c35_), [])), (2, (.v (.str c36_), [])), (8, (.v (.sl (List.map GFile.c (e37_ ++ [GFile.mk c35_ c36_]))), [(0, .app 31)])), (9, (.v (.bool true), [])), (10, (.v (.int .i64 (wr.i64 (b39_ + 1))), []))], [], []⟩ _ (by kernel_rfl) .nil ?_
              exact ⟨_, Nat.lt_succ_self _, _, _, _, rfl, h39⟩
            · refine Wc.condF h44 (by kernel_rfl) ?_
              refine Wc.fix (st' := ⟨[(0, (.v (.sl (List.map GFile.c e34_)), [])), (1, (.v (.str c35_), [])), (2, (.v (.str c36_), [])), (8, (.v (.sl (List.map GFile.c (e37_ ++ [GFile.mk c35_ c36_]))), [(0, .app 31)])), (9, (.v (.bool true), [])), (10, (.v (.int .i64 b39_), []))], [], []⟩) [] [0, 1, 2, 8, 9, 10] [] [] (by kernel_rfl) ?_
              refine Wc.skip ?_
              obtain ⟨f44_, h45, h39⟩ := obind h39
              obtain ⟨h46, h39⟩ := oguard h39
              refine Wc.region [{ tk := [8] }, {}, {}, { v := some (.vptr [.str f44_.gName, .str f44_.gText]) }, {}, { c := some (List.map GFile.c [f44_]) }, { c := some (List.map GFile.c ((e37_ ++ [GFile.mk c35_ c36_]) ++ [f44_])), tk := [42] }, { tk := [48] }] [] [0, 1, 2, 8, 9, 10] [] [] ⟨[(0, (.v (.sl (List.map GFile.c e34_)), [])), (1, (.v (.str c35_), [])), (2, (.v (.str c36_), [])), (8, (.v (.sl (List.map GFile.c ((e37_ ++ [GFile.mk c35_ c36_]) ++ [f44_]))), [(0, .app 31)])), (9, (.v (.bool true), [])), (10, (.v (.int .i64 b39_), []))], [], []⟩ _ (by kernel_rfl) (.cons (at_obl (c := GFile.c) (GFile.c_eq f44_) GFile.c_len h45) (.cons (len_ok 2 [.str f44_.gName, .str f44_.gText]) (.cons (cl_cons (c := GFile.c) (x := f44_) (GFile.c_eq f44_) (cl_nil GFile.c)) (.cons (app_re2 GFile.c (e37_ ++ [GFile.mk c35_ c36_]) [f44_]) (.cons (app_leaf (c := GFile.c) (ys := [f44_]) GFile.c_leaf) (.cons (app_obl2 (c := GFile.c) (xs := (e37_ ++ [GFile.mk c35_ c36_])) (ys := [f44_]) GFile.c_len h46) .nil)))))) ?_
              refine Wc.region [] [] [0, 1, 2, 8, 9, 10] [] [] ⟨[(0, (.v (.sl (List.map GFile.c e34_)), [])), (1, (.v (.str c35_), [])), (2, (.v (.str c36_), [])), (8, (.v (.sl (List.map GFile.c ((e37_ ++ [GFile.mk c35_ c36_]) ++ [f44_]))), [(0, .app 31)])), (9, (.v (.bool true), [])), (10, (.v (.int .i64 (wr.i64 (b39_ + 1))), []))], [], []⟩ _ (by kernel_rfl) .nil ?_
              exact ⟨_, Nat.lt_succ_self _, _, _, _, rfl, h39⟩
          · refine Wc.condF h41 (by kernel_rfl) ?_
            refine Wc.fix (st' := ⟨[(0, (.v (.sl (List.map GFile.c e34_)), [])), (1, (.v (.str c35_), [])), (2, (.v (.str c36_), [])), (8, (.v (.sl (List.map GFile.c e37_)), [(0, .app 31)])), (9, (.v (.bool d38_), [])), (10, (.v (.int .i64 b39_), []))], [], []⟩) [] [0, 1, 2, 8, 9, 10] [] [] (by kernel_rfl) ?_
            refine Wc.skip ?_
            obtain ⟨f45_, h47, h39⟩ := obind h39
            obtain ⟨h48, h39⟩ := oguard h39
            refine Wc.region [{ tk := [8] }, {}, {}, { v := some (.vptr [.str f45_.gName, .str f45_.gText]) }, {}, { c := some (List.map GFile.c [f45_]) }, { c := some (List.map GFile.c (e37_ ++ [f45_])), tk := [42] }, { tk := [48] }] [] [0, 1, 2, 8, 9, 10] [] [] ⟨[(0, (.v (.sl (List.map GFile.c e34_)), [])), (1, (.v (.str c35_), [])), (2, (.v (.str c36_), [])), (8, (.v (.sl (List.map GFile.c (e37_ ++ [f45_]))), [(0, .app 31)])), (9, (.v (.bool d38_), [])), (10, (.v (.int .i64 b39_), []))], [], []⟩ _ (by kernel_rfl) (.cons (at_obl (c := GFile.c) (GFile.c_eq f45_) GFile.c_len h47) (.cons (len_ok 2 [.str f45_.gName, .str f45_.gText]) (.cons (cl_cons (c := GFile.c) (x := f45_) (GFile.c_eq f45_) (cl_nil GFile.c)) (.cons (app_re2 GFile.c e37_ [f45_]) (.cons (app_leaf (c := GFile.c) (ys := [f45_]) GFile.c_leaf) (.cons (app_obl2 (c := GFile.c) (xs := e37_) (ys := [f45_]) GFile.c_len h48) .nil)))))) ?_
            refine Wc.region [] [] [0, 1, 2, 8, 9, 10] [] [] ⟨[(0, (.v (.sl (List.map GFile.c e34_)), [])), (1, (.v (.str c35_), [])), (2, (.v (.str c36_), [])), (8, (.v (.sl (List.map GFile.c (e37_ ++ [f45_]))), [(0, .app 31)])), (9, (.v (.bool d38_), [])), (10, (.v (.int .i64 (wr.i64 (b39_ + 1))), []))], [], []⟩ _ (by kernel_rfl) .nil ?_
            exact ⟨_, Nat.lt_succ_self _, _, _, _, rfl, h39⟩
      · refine Wc.condF h40 (by kernel_rfl) ?_
        refine Wc.fix (st' := ⟨[(0, (.v (.sl (List.map GFile.c e34_)), [])), (1, (.v (.str c35_), [])), (2, (.v (.str c36_), [])), (8, (.v (.sl (List.map GFile.c e37_)), [(0, .app 31)])), (9, (.v (.bool d38_), []))], [], []⟩) [] [0, 1, 2, 8, 9] [] [] (by kernel_rfl) ?_
        refine Wc.exit ?_
        obtain rfl := Option.some.inj h39
        exact ⟨_, _, rfl, rfl⟩
  · rintro st ⟨e40_, d41_, rfl, rfl⟩
    refine Wc.seqJ (fun st => ∃ (e47_ : List GFile), st = ⟨[(0, (.v (.sl (List.map GFile.c e34_)), [])), (8, (.v (.sl (List.map GFile.c e47_)), [(0, .app 31)]))], [], []⟩ ∧ pspec_Stored_J3 k e34_ e47_ = some r) ?_ ?_
    · refine Wc.seq ?_
      refine Wc.region [] [] [0, 1, 2, 8, 50] [] [] ⟨[(0, (.v (.sl (List.map GFile.c e34_)), [])), (1, (.v (.str c35_), [])), (2, (.v (.str c36_), [])), (8, (.v (.sl (List.map GFile.c e40_)), [(0, .app 31)])), (50, (.v (.bool (!d41_)), []))], [], []⟩ _ (by kernel_rfl) .nil ?_
      rcases oif h with ⟨h56, h⟩ | ⟨h56, h⟩
      · refine Wc.condT h56 (by kernel_rfl) ?_
        obtain ⟨h57, h⟩ := oguard h
        refine Wc.region [{ tk := [8] }, {}, {}, {}, { c := some (List.map GFile.c [GFile.mk c35_ c36_]) }, { c := some (List.map GFile.c (e40_ ++ [GFile.mk c35_ c36_])), tk := [51] }, { tk := [56] }] [] [0, 8] [] [] ⟨[(0, (.v (.sl (List.map GFile.c e34_)), [])), (8, (.v (.sl (List.map GFile.c (e40_ ++ [GFile.mk c35_ c36_]))), [(0, .app 31)]))], [], []⟩ _ (by kernel_rfl) (.cons (cl_cons (c := GFile.c) (x := GFile.mk c35_ c36_) (GFile.c_eq (GFile.mk c35_ c36_)) (cl_nil GFile.c)) (.cons (app_re2 GFile.c e40_ [GFile.mk c35_ c36_]) (.cons (app_leaf (c := GFile.c) (ys := [GFile.mk c35_ c36_]) GFile.c_leaf) (.cons (app_obl2 (c := GFile.c) (xs := e40_) (ys := [GFile.mk c35_ c36_]) GFile.c_len h57) .nil)))) ?_
        exact ⟨_, rfl, h⟩
      · refine Wc.condF h56 (by kernel_rfl) ?_
        refine Wc.fix (st' := ⟨[(0, (.v (.sl (List.map GFile.c e34_)), [])), (8, (.v (.sl (List.map GFile.c e40_)), [(0, .app 31)]))], [], []⟩) [] [0, 8] [] [] (by kernel_rfl) ?_
        refine Wc.skip ?_
        exact ⟨_, rfl, h⟩
    · rintro st ⟨e47_, rfl, h⟩
      refine Wc.seq ?_
      refine Wc.seqJ (fun st => ∃ (d48_ : Bool), st = ⟨[(0, (.v (.sl (List.map GFile.c e34_)), [])), (8, (.v (.sl (List.map GFile.c e47_)), [(0, .app 31)])), (64, (.v (.bool d48_), []))], [], []⟩ ∧ pspec_Stored_J4 k e34_ e47_ d48_ = some r) ?_ ?_
      · obtain ⟨d49_, h53, h⟩ := obind h
        rcases oif h with ⟨h54, h⟩ | ⟨h54, h⟩
        · refine Wc.region [{}, { r := some (.v (.bool d49_) []) }, {}, { re := some (.bool true) }] [] [0, 8, 64] [] [] ⟨[(0, (.v (.sl (List.map GFile.c e34_)), [])), (8, (.v (.sl (List.map GFile.c e47_)), [(0, .app 31)])), (64, (.v (.bool true), []))], [], []⟩ _ (by kernel_rfl) (.cons (cspec_FilesOk h53) (.cons (congrArg AV.bool h54) .nil)) ?_
          exact ⟨_, rfl, h⟩
        · obtain ⟨d50_, h55, h⟩ := obind h
          refine Wc.region [{}, { r := some (.v (.bool d49_) []) }, {}, { re := some (.bool false) }, {}, { r := some (.v (.bool d50_) []) }] [] [0, 8, 64] [] [] ⟨[(0, (.v (.sl (List.map GFile.c e34_)), [])), (8, (.v (.sl (List.map GFile.c e47_)), [(0, .app 31)])), (64, (.v (.bool (!d50_)), []))], [], []⟩ _ (by kernel_rfl) (.cons (cspec_FilesOk h53) (.cons (congrArg AV.bool h54) (.cons (cspec_FilesOk h55) .nil))) ?_
          exact ⟨_, rfl, h⟩
      · rintro st ⟨d48_, rfl, h⟩
        rcases oif h with ⟨h51, h⟩ | ⟨h51, h⟩
        · refine Wc.condT h51 (by kernel_rfl) ?_
          refine Wc.seq ?_
          obtain ⟨h52, h⟩ := oguard h
          refine Wc.region [{ c := some (List.map GFile.c []) }, {}, { c := some (List.map GFile.c e34_), tk := [65] }, { tk := [67] }] [] [6, 7] [] [] ⟨[(6, (.v (.sl (List.map GFile.c e34_)), [(0, .app 31)])), (7, (.v (.bool false), []))], [], []⟩ _ (by kernel_rfl) (.cons (cl_nil GFile.c) (.cons (app_re0 GFile.c e34_) (.cons (app_leaf (c := GFile.c) (ys := e34_) GFile.c_leaf) (.cons (app_obl2 (c := GFile.c) (xs := []) (ys := e34_) GFile.c_len h52) .nil)))) ?_
          refine Wc.ret ?_
          obtain rfl := Option.some.inj h
          exact ⟨.inl rfl, by kernel_rfl, by kernel_rfl⟩
        · refine Wc.condF h51 (by kernel_rfl) ?_
          refine Wc.fix (st' := ⟨[(8, (.v (.sl (List.map GFile.c e47_)), [(0, .app 31)]))], [], []⟩) [] [8] [] [] (by kernel_rfl) ?_
          refine Wc.skip ?_
          refine Wc.seq ?_
          refine Wc.region [{ tk := [8] }, { tk := [68] }] [] [6, 7] [] [] ⟨[(6, (.v (.sl (List.map GFile.c e47_)), [(0, .app 31)])), (7, (.v (.bool true), []))], [], []⟩ _ (by kernel_rfl) .nil ?_
          refine Wc.ret ?_
          obtain rfl := Option.some.inj h
          exact ⟨.inl rfl, by kernel_rfl, by kernel_rfl⟩

/-- spec.l01Byte -/
def pspec_l01Byte (k : Nat) (g51_ : GL01Cur) : Option (GL01Cur × Int) :=
  if (decide (g51_.gI < (g51_.gB.length : Int))) = true then
    (at' g51_.gB g51_.gI).bind fun b52_ =>
    some (GL01Cur.mk g51_.gB (wr.i64 (g51_.gI + 1)) (wr.i64 ((wr.i64 (g51_.gH * 6364136223846793005)) + 1442695040888963407)), band .i64 (wr.i64 ((band .i64 (bxor .i64 (bshr .i64 (wr.i64 ((wr.i64 (g51_.gH * 6364136223846793005)) + 1442695040888963407)) 33) (bshr .i64 (wr.i64 ((wr.i64 (g51_.gH * 6364136223846793005)) + 1442695040888963407)) 45)) 255) + (wr.i64 b52_))) 255)
  else
    some (GL01Cur.mk g51_.gB g51_.gI (wr.i64 ((wr.i64 (g51_.gH * 6364136223846793005)) + 1442695040888963407)), band .i64 (bxor .i64 (bshr .i64 (wr.i64 ((wr.i64 (g51_.gH * 6364136223846793005)) + 1442695040888963407)) 33) (bshr .i64 (wr.i64 ((wr.i64 (g51_.gH * 6364136223846793005)) + 1442695040888963407)) 45)) 255)
theorem cspec_l01Byte {k : Nat} {g51_ : GL01Cur} {r : GL01Cur × Int} (h : pspec_l01Byte k g51_ = some r) : FnO Try.prog 83 [.p [.sl (List.map cI.u8 g51_.gB), .int .i64 g51_.gI, .int .i64 g51_.gH] []] (.v (.int .i64 r.2) []) [(0, .p [.sl (List.map cI.u8 r.1.gB), .int .i64 r.1.gI, .int .i64 r.1.gH] [])] := by
  refine FnO.of Try.func83 (rfl : Try.f83.body = some _) (Nat.le_of_ble_eq_true (by kernel_rfl)) (Nat.le_of_ble_eq_true (by kernel_rfl)) ?_
  intro w0 X0 Fin pv0 pb gt
  unfold pspec_l01Byte at h
  refine Wc.seq ?_
  refine Wc.region [] [] [0] [1000000] [] ⟨[(0, (.ptr 1000000 0, []))], [(1000000, .cells [.sl (List.map cI.u8 g51_.gB), .int .i64 g51_.gI, .int .i64 g51_.gH] [])], []⟩ _ (by kernel_rfl) .nil ?_
  refine Wc.seq ?_
  refine Wc.region [] [] [0] [1000000] [] ⟨[(0, (.ptr 1000000 0, []))], [(1000000, .cells [.sl (List.map cI.u8 g51_.gB), .int .i64 g51_.gI, .int .i64 (wr.i64 ((wr.i64 (g51_.gH * 6364136223846793005)) + 1442695040888963407))] [])], []⟩ _ (by kernel_rfl) .nil ?_
  refine Wc.seq ?_
  refine Wc.draw hmix [] [] [0, 3] [1000000] [] ⟨[(0, (.ptr 1000000 0, [])), (3, (.v (.int .i64 (band .i64 (bxor .i64 (bshr .i64 (wr.i64 ((wr.i64 (g51_.gH * 6364136223846793005)) + 1442695040888963407)) 33) (bshr .i64 (wr.i64 ((wr.i64 (g51_.gH * 6364136223846793005)) + 1442695040888963407)) 45)) 255)), []))], [(1000000, .cells [.sl (List.map cI.u8 g51_.gB), .int .i64 g51_.gI, .int .i64 (wr.i64 ((wr.i64 (g51_.gH * 6364136223846793005)) + 1442695040888963407))] [])], []⟩ _ (by kernel_rfl) (fun X => by kernel_rfl) (.cons (show (0 : Int) ≤ 33 by decide) (.cons (show (0 : Int) ≤ 45 by decide) .nil)) ?_
  refine Wc.seq ?_
  refine Wc.seq ?_
  refine Wc.draw hmix [{}, {}, {}, {}, {}, {}, {}, {}, { v := some (.int .i64 (g51_.gB.length : Int)) }] [] [0, 3, 34] [1000000] [] ⟨[(0, (.ptr 1000000 0, [])), (3, (.v (.int .i64 (band .i64 (bxor .i64 (bshr .i64 (wr.i64 ((wr.i64 (g51_.gH * 6364136223846793005)) + 1442695040888963407)) 33) (bshr .i64 (wr.i64 ((wr.i64 (g51_.gH * 6364136223846793005)) + 1442695040888963407)) 45)) 255)), [])), (34, (.v (.bool (decide (g51_.gI < (g51_.gB.length : Int)))), []))], [(1000000, .cells [.sl (List.map cI.u8 g51_.gB), .int .i64 g51_.gI, .int .i64 (wr.i64 ((wr.i64 (g51_.gH * 6364136223846793005)) + 1442695040888963407))] [])], []⟩ _ (by kernel_rfl) (fun X => by kernel_rfl) (.cons (len_obl cI.u8 g51_.gB) .nil) ?_
  rcases oif h with ⟨h58, h⟩ | ⟨h58, h⟩
  · refine Wc.condT h58 (by kernel_rfl) ?_
    refine Wc.seq ?_
    obtain ⟨b52_, h59, h⟩ := obind h
    refine Wc.draw hmix [{}, {}, {}, {}, {}, {}, {}, {}, {}, { v := some (.vptr [.int .u8 b52_]) }] [] [0, 3] [1000000] [] ⟨[(0, (.ptr 1000000 0, [])), (3, (.v (.int .i64 (band .i64 (wr.i64 ((band .i64 (bxor .i64 (bshr .i64 (wr.i64 ((wr.i64 (g51_.gH * 6364136223846793005)) + 1442695040888963407)) 33) (bshr .i64 (wr.i64 ((wr.i64 (g51_.gH * 6364136223846793005)) + 1442695040888963407)) 45)) 255) + (wr.i64 b52_))) 255)), []))], [(1000000, .cells [.sl (List.map cI.u8 g51_.gB), .int .i64 g51_.gI, .int .i64 (wr.i64 ((wr.i64 (g51_.gH * 6364136223846793005)) + 1442695040888963407))] [])], []⟩ _ (by kernel_rfl) (fun X => by kernel_rfl) (.cons (at_obl (c := cI.u8) rfl cI.u8_len h59) (.cons (len_ok 1 [.int .u8 b52_]) .nil)) ?_
    refine Wc.region [] [] [3] [1000000] [] ⟨[(3, (.v (.int .i64 (band .i64 (wr.i64 ((band .i64 (bxor .i64 (bshr .i64 (wr.i64 ((wr.i64 (g51_.gH * 6364136223846793005)) + 1442695040888963407)) 33) (bshr .i64 (wr.i64 ((wr.i64 (g51_.gH * 6364136223846793005)) + 1442695040888963407)) 45)) 255) + (wr.i64 b52_))) 255)), []))], [(1000000, .cells [.sl (List.map cI.u8 g51_.gB), .int .i64 (wr.i64 (g51_.gI + 1)), .int .i64 (wr.i64 ((wr.i64 (g51_.gH * 6364136223846793005)) + 1442695040888963407))] [])], []⟩ _ (by kernel_rfl) .nil ?_
    refine Wc.seq ?_
    refine Wc.region [] [] [2] [1000000] [] ⟨[(2, (.v (.int .i64 (band .i64 (wr.i64 ((band .i64 (bxor .i64 (bshr .i64 (wr.i64 ((wr.i64 (g51_.gH * 6364136223846793005)) + 1442695040888963407)) 33) (bshr .i64 (wr.i64 ((wr.i64 (g51_.gH * 6364136223846793005)) + 1442695040888963407)) 45)) 255) + (wr.i64 b52_))) 255)), []))], [(1000000, .cells [.sl (List.map cI.u8 g51_.gB), .int .i64 (wr.i64 (g51_.gI + 1)), .int .i64 (wr.i64 ((wr.i64 (g51_.gH * 6364136223846793005)) + 1442695040888963407))] [])], []⟩ _ (by kernel_rfl) .nil ?_
    refine Wc.ret ?_
    obtain rfl := Option.some.inj h
    exact ⟨.inl rfl, by kernel_rfl, by kernel_rfl⟩
  · refine Wc.condF h58 (by kernel_rfl) ?_
    refine Wc.fix (st' := ⟨[(3, (.v (.int .i64 (band .i64 (bxor .i64 (bshr .i64 (wr.i64 ((wr.i64 (g51_.gH * 6364136223846793005)) + 1442695040888963407)) 33) (bshr .i64 (wr.i64 ((wr.i64 (g51_.gH * 6364136223846793005)) + 1442695040888963407)) 45)) 255)), []))], [(1000000, .cells [.sl (List.map cI.u8 g51_.gB), .int .i64 g51_.gI, .int .i64 (wr.i64 ((wr.i64 (g51_.gH * 6364136223846793005)) + 1442695040888963407))] [])], []⟩) [] [3] [1000000] [] (by kernel_rfl) ?_
    refine Wc.skip ?_
    refine Wc.seq ?_
    refine Wc.region [] [] [2] [1000000] [] ⟨[(2, (.v (.int .i64 (band .i64 (bxor .i64 (bshr .i64 (wr.i64 ((wr.i64 (g51_.gH * 6364136223846793005)) + 1442695040888963407)) 33) (bshr .i64 (wr.i64 ((wr.i64 (g51_.gH * 6364136223846793005)) + 1442695040888963407)) 45)) 255)), []))], [(1000000, .cells [.sl (List.map cI.u8 g51_.gB), .int .i64 g51_.gI, .int .i64 (wr.i64 ((wr.i64 (g51_.gH * 6364136223846793005)) + 1442695040888963407))] [])], []⟩ _ (by kernel_rfl) .nil ?_
    refine Wc.ret ?_
    obtain rfl := Option.some.inj h
    exact ⟨.inl rfl, by kernel_rfl, by kernel_rfl⟩

/-- spec.l01Below -/
def pspec_l01Below (k : Nat) (g53_ : GL01Cur) (b54_ : Int) : Option (GL01Cur × Int) :=
  if (decide (b54_ ≤ 0)) = true then
    some (g53_, 0)
  else
    if (decide (b54_ ≤ 256)) = true then
      (pspec_l01Byte k g53_).bind fun i55_ =>
      if (b54_ : Int) ≠ 0 then
        some (i55_.1, Int.tmod i55_.2 b54_)
      else none
    else
      (pspec_l01Byte k g53_).bind fun i56_ =>
      (pspec_l01Byte k i56_.1).bind fun i57_ =>
      (pspec_l01Byte k i57_.1).bind fun i58_ =>
      (pspec_l01Byte k i58_.1).bind fun i59_ =>
      if (b54_ : Int) ≠ 0 then
        some (i59_.1, Int.tmod (wr.i64 ((wr.i64 ((wr.i64 ((wr.i64 (i56_.2 * 16777216)) + (wr.i64 (i57_.2 * 65536)))) + (wr.i64 (i58_.2 * 256)))) + i59_.2)) b54_)
      else none
theorem cspec_l01Below {k : Nat} {g53_ : GL01Cur} {b54_ : Int} {r : GL01Cur × Int} (h : pspec_l01Below k g53_ b54_ = some r) : FnO Try.prog 84 [.p [.sl (List.map cI.u8 g53_.gB), .int .i64 g53_.gI, .int .i64 g53_.gH] [], .v (.int .i64 b54_) []] (.v (.int .i64 r.2) []) [(0, .p [.sl (List.map cI.u8 r.1.gB), .int .i64 r.1.gI, .int .i64 r.1.gH] [])] := by
  refine FnO.of Try.func84 (rfl : Try.f84.body = some _) (Nat.le_of_ble_eq_true (by kernel_rfl)) (Nat.le_of_ble_eq_true (by kernel_rfl)) ?_
  intro w0 X0 Fin pv0 pb gt
  unfold pspec_l01Below at h
  refine Wc.seq ?_
  refine Wc.region [] [] [0, 1] [1000000] [] ⟨[(0, (.ptr 1000000 0, [])), (1, (.v (.int .i64 b54_), []))], [(1000000, .cells [.sl (List.map cI.u8 g53_.gB), .int .i64 g53_.gI, .int .i64 g53_.gH] [])], []⟩ _ (by kernel_rfl) .nil ?_
  refine Wc.seq ?_
  refine Wc.seq ?_
  refine Wc.region [] [] [0, 1, 10] [1000000] [] ⟨[(0, (.ptr 1000000 0, [])), (1, (.v (.int .i64 b54_), [])), (10, (.v (.bool (decide (b54_ ≤ 0))), []))], [(1000000, .cells [.sl (List.map cI.u8 g53_.gB), .int .i64 g53_.gI, .int .i64 g53_.gH] [])], []⟩ _ (by kernel_rfl) .nil ?_
  rcases oif h with ⟨h60, h⟩ | ⟨h60, h⟩
  · refine Wc.condT h60 (by kernel_rfl) ?_
    refine Wc.seq ?_
    refine Wc.region [] [] [4] [1000000] [] ⟨[(4, (.v (.int .i64 0), []))], [(1000000, .cells [.sl (List.map cI.u8 g53_.gB), .int .i64 g53_.gI, .int .i64 g53_.gH] [])], []⟩ _ (by kernel_rfl) .nil ?_
    refine Wc.ret ?_
    obtain rfl := Option.some.inj h
    exact ⟨.inl rfl, by kernel_rfl, by kernel_rfl⟩
  · refine Wc.condF h60 (by kernel_rfl) ?_
    refine Wc.fix (st' := ⟨[(0, (.ptr 1000000 0, [])), (1, (.v (.int .i64 b54_), []))], [(1000000, .cells [.sl (List.map cI.u8 g53_.gB), .int .i64 g53_.gI, .int .i64 g53_.gH] [])], []⟩) [] [0, 1] [1000000] [] (by kernel_rfl) ?_
    refine Wc.skip ?_
    refine Wc.seq ?_
    refine Wc.seq ?_
    refine Wc.region [] [] [0, 1, 12] [1000000] [] ⟨[(0, (.ptr 1000000 0, [])), (1, (.v (.int .i64 b54_), [])), (12, (.v (.bool (decide (b54_ ≤ 256))), []))], [(1000000, .cells [.sl (List.map cI.u8 g53_.gB), .int .i64 g53_.gI, .int .i64 g53_.gH] [])], []⟩ _ (by kernel_rfl) .nil ?_
    rcases oif h with ⟨h61, h⟩ | ⟨h61, h⟩
    · refine Wc.condT h61 (by kernel_rfl) ?_
      refine Wc.seq ?_
      obtain ⟨i55_, h62, h⟩ := obind h
      obtain ⟨h63, h⟩ := oguard h
      refine Wc.region [{}, { r := some (.v (.int .i64 i55_.2) []), outs := [(0, .p [.sl (List.map cI.u8 i55_.1.gB), .int .i64 i55_.1.gI, .int .i64 i55_.1.gH] [])] }] [] [4] [1000000] [] ⟨[(4, (.v (.int .i64 (Int.tmod i55_.2 b54_)), []))], [(1000000, .cells [.sl (List.map cI.u8 i55_.1.gB), .int .i64 i55_.1.gI, .int .i64 i55_.1.gH] [])], []⟩ _ (by kernel_rfl) (.cons (cspec_l01Byte h62) (.cons h63 .nil)) ?_
      refine Wc.ret ?_
      obtain rfl := Option.some.inj h
      exact ⟨.inl rfl, by kernel_rfl, by kernel_rfl⟩
    · refine Wc.condF h61 (by kernel_rfl) ?_
      refine Wc.fix (st' := ⟨[(0, (.ptr 1000000 0, [])), (1, (.v (.int .i64 b54_), []))], [(1000000, .cells [.sl (List.map cI.u8 g53_.gB), .int .i64 g53_.gI, .int .i64 g53_.gH] [])], []⟩) [] [0, 1] [1000000] [] (by kernel_rfl) ?_
      refine Wc.skip ?_
      refine Wc.seq ?_
      obtain ⟨i56_, h64, h⟩ := obind h
      refine Wc.region [{}, { r := some (.v (.int .i64 i56_.2) []), outs := [(0, .p [.sl (List.map cI.u8 i56_.1.gB), .int .i64 i56_.1.gI, .int .i64 i56_.1.gH] [])] }] [] [0, 1, 5] [1000000] [] ⟨[(0, (.ptr 1000000 0, [])), (1, (.v (.int .i64 b54_), [])), (5, (.v (.int .i64 i56_.2), []))], [(1000000, .cells [.sl (List.map cI.u8 i56_.1.gB), .int .i64 i56_.1.gI, .int .i64 i56_.1.gH] [])], []⟩ _ (by kernel_rfl) (.cons (cspec_l01Byte h64) .nil) ?_
      refine Wc.seq ?_
      obtain ⟨i57_, h65, h⟩ := obind h
      refine Wc.region [{}, { r := some (.v (.int .i64 i57_.2) []), outs := [(0, .p [.sl (List.map cI.u8 i57_.1.gB), .int .i64 i57_.1.gI, .int .i64 i57_.1.gH] [])] }] [] [0, 1, 5, 6] [1000000] [] ⟨[(0, (.ptr 1000000 0, [])), (1, (.v (.int .i64 b54_), [])), (5, (.v (.int .i64 i56_.2), [])), (6, (.v (.int .i64 i57_.2), []))], [(1000000, .cells [.sl (List.map cI.u8 i57_.1.gB), .int .i64 i57_.1.gI, .int .i64 i57_.1.gH] [])], []⟩ _ (by kernel_rfl) (.cons (cspec_l01Byte h65) .nil) ?_
      refine Wc.seq ?_
      obtain ⟨i58_, h66, h⟩ := obind h
      refine Wc.region [{}, { r := some (.v (.int .i64 i58_.2) []), outs := [(0, .p [.sl (List.map cI.u8 i58_.1.gB), .int .i64 i58_.1.gI, .int .i64 i58_.1.gH] [])] }] [] [0, 1, 5, 6, 7] [1000000] [] ⟨[(0, (.ptr 1000000 0, [])), (1, (.v (.int .i64 b54_), [])), (5, (.v (.int .i64 i56_.2), [])), (6, (.v (.int .i64 i57_.2), [])), (7, (.v (.int .i64 i58_.2), []))], [(1000000, .cells [.sl (List.map cI.u8 i58_.1.gB), .int .i64 i58_.1.gI, .int .i64 i58_.1.gH] [])], []⟩ _ (by kernel_rfl) (.cons (cspec_l01Byte h66) .nil) ?_
      refine Wc.seq ?_
      obtain ⟨i59_, h67, h⟩ := obind h
      refine Wc.region [{}, { r := some (.v (.int .i64 i59_.2) []), outs := [(0, .p [.sl (List.map cI.u8 i59_.1.gB), .int .i64 i59_.1.gI, .int .i64 i59_.1.gH] [])] }] [] [1, 5, 6, 7, 8] [1000000] [] ⟨[(1, (.v (.int .i64 b54_), [])), (5, (.v (.int .i64 i56_.2), [])), (6, (.v (.int .i64 i57_.2), [])), (7, (.v (.int .i64 i58_.2), [])), (8, (.v (.int .i64 i59_.2), []))], [(1000000, .cells [.sl (List.map cI.u8 i59_.1.gB), .int .i64 i59_.1.gI, .int .i64 i59_.1.gH] [])], []⟩ _ (by kernel_rfl) (.cons (cspec_l01Byte h67) .nil) ?_
      refine Wc.seq ?_
      obtain ⟨h68, h⟩ := oguard h
      refine Wc.region [] [] [4] [1000000] [] ⟨[(4, (.v (.int .i64 (Int.tmod (wr.i64 ((wr.i64 ((wr.i64 ((wr.i64 (i56_.2 * 16777216)) + (wr.i64 (i57_.2 * 65536)))) + (wr.i64 (i58_.2 * 256)))) + i59_.2)) b54_)), []))], [(1000000, .cells [.sl (List.map cI.u8 i59_.1.gB), .int .i64 i59_.1.gI, .int .i64 i59_.1.gH] [])], []⟩ _ (by kernel_rfl) (.cons h68 .nil) ?_
      refine Wc.ret ?_
      obtain rfl := Option.some.inj h
      exact ⟨.inl rfl, by kernel_rfl, by kernel_rfl⟩

/-- spec.l01Once -/
def pspec_l01Once (k : Nat) (g60_ : GL01Cur) (b61_ : Int) : Option (GL01Cur × Bool) :=
  (pspec_l01Below k g60_ b61_).bind fun i62_ =>
  some (i62_.1, (i62_.2 == 0))
theorem cspec_l01Once {k : Nat} {g60_ : GL01Cur} {b61_ : Int} {r : GL01Cur × Bool} (h : pspec_l01Once k g60_ b61_ = some r) : FnO Try.prog 100 [.p [.sl (List.map cI.u8 g60_.gB), .int .i64 g60_.gI, .int .i64 g60_.gH] [], .v (.int .i64 b61_) []] (.v (.bool r.2) []) [(0, .p [.sl (List.map cI.u8 r.1.gB), .int .i64 r.1.gI, .int .i64 r.1.gH] [])] := by
  refine FnO.of Try.func100 (rfl : Try.f100.body = some _) (Nat.le_of_ble_eq_true (by kernel_rfl)) (Nat.le_of_ble_eq_true (by kernel_rfl)) ?_
  intro w0 X0 Fin pv0 pb gt
  unfold pspec_l01Once at h
  refine Wc.seq ?_
  refine Wc.region [] [] [0, 1] [1000000] [] ⟨[(0, (.ptr 1000000 0, [])), (1, (.v (.int .i64 b61_), []))], [(1000000, .cells [.sl (List.map cI.u8 g60_.gB), .int .i64 g60_.gI, .int .i64 g60_.gH] [])], []⟩ _ (by kernel_rfl) .nil ?_
  refine Wc.seq ?_
  obtain ⟨i62_, h69, h⟩ := obind h
  refine Wc.region [{}, {}, { r := some (.v (.int .i64 i62_.2) []), outs := [(0, .p [.sl (List.map cI.u8 i62_.1.gB), .int .i64 i62_.1.gI, .int .i64 i62_.1.gH] [])] }] [] [4] [1000000] [] ⟨[(4, (.v (.bool (i62_.2 == 0)), []))], [(1000000, .cells [.sl (List.map cI.u8 i62_.1.gB), .int .i64 i62_.1.gI, .int .i64 i62_.1.gH] [])], []⟩ _ (by kernel_rfl) (.cons (cspec_l01Below h69) .nil) ?_
  refine Wc.ret ?_
  obtain rfl := Option.some.inj h
  exact ⟨.inl rfl, by kernel_rfl, by kernel_rfl⟩

/-- spec.l01Pick -/
def pspec_l01Pick (k : Nat) (g63_ : GL01Cur) (j64_ : List ByteArray) : Option (GL01Cur × ByteArray) :=
  (pspec_l01Below k g63_ (j64_.length : Int)).bind fun i65_ =>
  (at' j64_ i65_.2).bind fun c66_ =>
  some (i65_.1, c66_)
theorem cspec_l01Pick {k : Nat} {g63_ : GL01Cur} {j64_ : List ByteArray} {r : GL01Cur × ByteArray} (h : pspec_l01Pick k g63_ j64_ = some r) : FnO Try.prog 65 [.p [.sl (List.map cI.u8 g63_.gB), .int .i64 g63_.gI, .int .i64 g63_.gH] [], .v (.sl (List.map cS j64_)) []] (.v (.str r.2) []) [(0, .p [.sl (List.map cI.u8 r.1.gB), .int .i64 r.1.gI, .int .i64 r.1.gH] [])] := by
  refine FnO.of Try.func65 (rfl : Try.f65.body = some _) (Nat.le_of_ble_eq_true (by kernel_rfl)) (Nat.le_of_ble_eq_true (by kernel_rfl)) ?_
  intro w0 X0 Fin pv0 pb gt
  unfold pspec_l01Pick at h
  refine Wc.seq ?_
  refine Wc.region [] [] [0, 1] [1000000] [] ⟨[(0, (.ptr 1000000 0, [])), (1, (.v (.sl (List.map cS j64_)), []))], [(1000000, .cells [.sl (List.map cI.u8 g63_.gB), .int .i64 g63_.gI, .int .i64 g63_.gH] [])], []⟩ _ (by kernel_rfl) .nil ?_
  refine Wc.seq ?_
  obtain ⟨i65_, h70, h⟩ := obind h
  obtain ⟨c66_, h71, h⟩ := obind h
  refine Wc.region [{}, {}, {}, { v := some (.int .i64 (j64_.length : Int)) }, { r := some (.v (.int .i64 i65_.2) []), outs := [(0, .p [.sl (List.map cI.u8 i65_.1.gB), .int .i64 i65_.1.gI, .int .i64 i65_.1.gH] [])] }, { v := some (.vptr [.str c66_]) }] [] [4] [1000000] [] ⟨[(4, (.v (.str c66_), []))], [(1000000, .cells [.sl (List.map cI.u8 i65_.1.gB), .int .i64 i65_.1.gI, .int .i64 i65_.1.gH] [])], []⟩ _ (by kernel_rfl) (.cons (len_obl cS j64_) (.cons (cspec_l01Below h70) (.cons (at_obl (c := cS) rfl cS_len h71) (.cons (len_ok 1 [.str c66_]) .nil)))) ?_
  refine Wc.ret ?_
  obtain rfl := Option.some.inj h
  exact ⟨.inl rfl, by kernel_rfl, by kernel_rfl⟩

/-- spec.l08Lines -/
def pspec_l08Lines (k : Nat) : Option (List ByteArray) :=
  some [(bs [112, 40, 97, 41]), (bs [112, 40, 98, 41]), (bs [112, 40, 99, 41]), (bs [113, 40, 88, 41, 32, 58, 45, 32, 112, 40, 88, 41]), (bs [113, 40, 122, 41]), (bs [114, 40, 88, 44, 32, 89, 41, 32, 58, 45, 32, 112, 40, 88, 41, 44, 32, 113, 40, 89, 41]), (bs [97, 112, 112, 40, 91, 93, 44, 32, 76, 44, 32, 76, 41]), (bs [97, 112, 112, 40, 91, 72, 124, 84, 93, 44, 32, 76, 44, 32, 91, 72, 124, 82, 93, 41, 32, 58, 45, 32, 97, 112, 112, 40, 84, 44, 32, 76, 44, 32, 82, 41]), (bs [108, 101, 110, 40, 91, 93, 44, 32, 48, 41]), (bs [108, 101, 110, 40, 91, 95, 124, 84, 93, 44, 32, 78, 41, 32, 58, 45, 32, 108, 101, 110, 40, 84, 44, 32, 77, 41, 44, 32, 78, 32, 105, 115, 32, 77, 32, 43, 32, 49]), (bs [115, 40, 88, 41, 32, 58, 45, 32, 112, 40, 88, 41, 44, 32, 33]), (bs [115, 40, 122, 41]), (bs [116, 40, 88, 41, 32, 58, 45, 32, 40, 112, 40, 88, 41, 32, 45, 62, 32, 116, 114, 117, 101, 32, 59, 32, 88, 32, 61, 32, 110, 111, 110, 101, 41]), (bs [117, 40, 88, 41, 32, 58, 45, 32, 92, 43, 32, 112, 40, 88, 41]), (bs [119, 40, 88, 41, 32, 58, 45, 32, 112, 40, 88, 41, 44, 32, 119, 114, 105, 116, 101, 40, 88, 41]), (bs [99, 40, 88, 41, 32, 58, 45, 32, 99, 97, 116, 99, 104, 40, 112, 40, 88, 41, 44, 32, 95, 44, 32, 116, 114, 117, 101, 41]), (bs [101, 40, 88, 41, 32, 58, 45, 32, 99, 97, 116, 99, 104, 40, 116, 104, 114, 111, 119, 40, 88, 41, 44, 32, 89, 44, 32, 119, 114, 105, 116, 101, 40, 89, 41, 41]), (bs [110, 40, 88, 41, 32, 58, 45, 32, 88, 32, 105, 115, 32, 51, 32, 47, 47, 32, 48]), (bs [109, 40, 88, 41, 32, 58, 45, 32, 99, 97, 116, 99, 104, 40, 110, 40, 88, 41, 44, 32, 101, 114, 114, 111, 114, 40, 69, 44, 32, 95, 41, 44, 32, 40, 88, 32, 61, 32, 69, 41, 41]), (bs [97, 100, 100, 40, 88, 41, 32, 58, 45, 32, 97, 115, 115, 101, 114, 116, 122, 40, 112, 40, 88, 41, 41]), (bs [100, 101, 108, 40, 88, 41, 32, 58, 45, 32, 114, 101, 116, 114, 97, 99, 116, 40, 112, 40, 88, 41, 41]), (bs [108, 111, 111, 112, 32, 58, 45, 32, 108, 111, 111, 112]), (bs [118, 40, 88, 41, 32, 58, 45, 32, 99, 97, 108, 108, 40, 112, 44, 32, 88, 41]), (bs [100, 40, 88, 44, 32, 89, 41, 32, 58, 45, 32, 88, 32, 61, 32, 89, 32, 59, 32, 89, 32, 61, 32, 98]), (bs [103, 40, 102, 40, 88, 41, 44, 32, 88, 41]), (bs [103, 40, 104, 40, 88, 41, 44, 32, 88, 41]), (bs [103, 40, 49, 44, 32, 111, 110, 101, 41]), (bs [107, 40, 88, 41, 32, 58, 45, 32, 117, 110, 107, 110, 111, 119, 110, 40, 88, 41]), (bs [121, 40, 88, 41, 32, 58, 45, 32, 112, 40, 88, 41, 44, 32, 97, 115, 115, 101, 114, 116, 122, 40, 112, 40, 100, 41, 41, 44, 32, 88, 32, 61, 32, 98])]
theorem cspec_l08Lines {k : Nat} {r : (List ByteArray)} (h : pspec_l08Lines k = some r) : FnO Try.prog 159 [] (.v (.sl (List.map cS r)) [(0, .app 9)]) [] := by
  refine FnO.of Try.func159 (rfl : Try.f159.body = some _) (Nat.le_of_ble_eq_true (by kernel_rfl)) (Nat.le_of_ble_eq_true (by kernel_rfl)) ?_
  intro w0 X0 Fin pv0 pb gt
  unfold pspec_l08Lines at h
  refine Wc.seq ?_
  refine Wc.region [] [] [] [] [] ⟨[], [], []⟩ _ (by kernel_rfl) .nil ?_
  refine Wc.seq ?_
  refine Wc.region [{ c := some (List.map cS [(bs [112, 40, 97, 41]), (bs [112, 40, 98, 41]), (bs [112, 40, 99, 41]), (bs [113, 40, 88, 41, 32, 58, 45, 32, 112, 40, 88, 41]), (bs [113, 40, 122, 41]), (bs [114, 40, 88, 44, 32, 89, 41, 32, 58, 45, 32, 112, 40, 88, 41, 44, 32, 113, 40, 89, 41]), (bs [97, 112, 112, 40, 91, 93, 44, 32, 76, 44, 32, 76, 41]), (bs [97, 112, 112, 40, 91, 72, 124, 84, 93, 44, 32, 76, 44, 32, 91, 72, 124, 82, 93, 41, 32, 58, 45, 32, 97, 112, 112, 40, 84, 44, 32, 76, 44, 32, 82, 41]), (bs [108, 101, 110, 40, 91, 93, 44, 32, 48, 41]), (bs [108, 101, 110, 40, 91, 95, 124, 84, 93, 44, 32, 78, 41, 32, 58, 45, 32, 108, 101, 110, 40, 84, 44, 32, 77, 41, 44, 32, 78, 32, 105, 115, 32, 77, 32, 43, 32, 49]), (bs [115, 40, 88, 41, 32, 58, 45, 32, 112, 40, 88, 41, 44, 32, 33]), (bs [115, 40, 122, 41]), (bs [116, 40, 88, 41, 32, 58, 45, 32, 40, 112, 40, 88, 41, 32, 45, 62, 32, 116, 114, 117, 101, 32, 59, 32, 88, 32, 61, 32, 110, 111, 110, 101, 41]), (bs [117, 40, 88, 41, 32, 58, 45, 32, 92, 43, 32, 112, 40, 88, 41]), (bs [119, 40, 88, 41, 32, 58, 45, 32, 112, 40, 88, 41, 44, 32, 119, 114, 105, 116, 101, 40, 88, 41]), (bs [99, 40, 88, 41, 32, 58, 45, 32, 99, 97, 116, 99, 104, 40, 112, 40, 88, 41, 44, 32, 95, 44, 32, 116, 114, 117, 101, 41]), (bs [101, 40, 88, 41, 32, 58, 45, 32, 99, 97, 116, 99, 104, 40, 116, 104, 114, 111, 119, 40, 88, 41, 44, 32, 89, 44, 32, 119, 114, 105, 116, 101, 40, 89, 41, 41]), (bs [110, 40, 88, 41, 32, 58, 45, 32, 88, 32, 105, 115, 32, 51, 32, 47, 47, 32, 48]), (bs [109, 40, 88, 41, 32, 58, 45, 32, 99, 97, 116, 99, 104, 40, 110, 40, 88, 41, 44, 32, 101, 114, 114, 111, 114, 40, 69, 44, 32, 95, 41, 44, 32, 40, 88, 32, 61, 32, 69, 41, 41]), (bs [97, 100, 100, 40, 88, 41, 32, 58, 45, 32, 97, 115, 115, 101, 114, 116, 122, 40, 112, 40, 88, 41, 41]), (bs [100, 101, 108, 40, 88, 41, 32, 58, 45, 32, 114, 101, 116, 114, 97, 99, 116, 40, 112, 40, 88, 41, 41]), (bs [108, 111, 111, 112, 32, 58, 45, 32, 108, 111, 111, 112]), (bs [118, 40, 88, 41, 32, 58, 45, 32, 99, 97, 108, 108, 40, 112, 44, 32, 88, 41]), (bs [100, 40, 88, 44, 32, 89, 41, 32, 58, 45, 32, 88, 32, 61, 32, 89, 32, 59, 32, 89, 32, 61, 32, 98]), (bs [103, 40, 102, 40, 88, 41, 44, 32, 88, 41]), (bs [103, 40, 104, 40, 88, 41, 44, 32, 88, 41]), (bs [103, 40, 49, 44, 32, 111, 110, 101, 41]), (bs [107, 40, 88, 41, 32, 58, 45, 32, 117, 110, 107, 110, 111, 119, 110, 40, 88, 41]), (bs [121, 40, 88, 41, 32, 58, 45, 32, 112, 40, 88, 41, 44, 32, 97, 115, 115, 101, 114, 116, 122, 40, 112, 40, 100, 41, 41, 44, 32, 88, 32, 61, 32, 98])]) }, { tk := [1] }] [] [0] [] [] ⟨[(0, (.v (.sl (List.map cS [(bs [112, 40, 97, 41]), (bs [112, 40, 98, 41]), (bs [112, 40, 99, 41]), (bs [113, 40, 88, 41, 32, 58, 45, 32, 112, 40, 88, 41]), (bs [113, 40, 122, 41]), (bs [114, 40, 88, 44, 32, 89, 41, 32, 58, 45, 32, 112, 40, 88, 41, 44, 32, 113, 40, 89, 41]), (bs [97, 112, 112, 40, 91, 93, 44, 32, 76, 44, 32, 76, 41]), (bs [97, 112, 112, 40, 91, 72, 124, 84, 93, 44, 32, 76, 44, 32, 91, 72, 124, 82, 93, 41, 32, 58, 45, 32, 97, 112, 112, 40, 84, 44, 32, 76, 44, 32, 82, 41]), (bs [108, 101, 110, 40, 91, 93, 44, 32, 48, 41]), (bs [108, 101, 110, 40, 91, 95, 124, 84, 93, 44, 32, 78, 41, 32, 58, 45, 32, 108, 101, 110, 40, 84, 44, 32, 77, 41, 44, 32, 78, 32, 105, 115, 32, 77, 32, 43, 32, 49]), (bs [115, 40, 88, 41, 32, 58, 45, 32, 112, 40, 88, 41, 44, 32, 33]), (bs [115, 40, 122, 41]), (bs [116, 40, 88, 41, 32, 58, 45, 32, 40, 112, 40, 88, 41, 32, 45, 62, 32, 116, 114, 117, 101, 32, 59, 32, 88, 32, 61, 32, 110, 111, 110, 101, 41]), (bs [117, 40, 88, 41, 32, 58, 45, 32, 92, 43, 32, 112, 40, 88, 41]), (bs [119, 40, 88, 41, 32, 58, 45, 32, 112, 40, 88, 41, 44, 32, 119, 114, 105, 116, 101, 40, 88, 41]), (bs [99, 40, 88, 41, 32, 58, 45, 32, 99, 97, 116, 99, 104, 40, 112, 40, 88, 41, 44, 32, 95, 44, 32, 116, 114, 117, 101, 41]), (bs [101, 40, 88, 41, 32, 58, 45, 32, 99, 97, 116, 99, 104, 40, 116, 104, 114, 111, 119, 40, 88, 41, 44, 32, 89, 44, 32, 119, 114, 105, 116, 101, 40, 89, 41, 41]), (bs [110, 40, 88, 41, 32, 58, 45, 32, 88, 32, 105, 115, 32, 51, 32, 47, 47, 32, 48]), (bs [109, 40, 88, 41, 32, 58, 45, 32, 99, 97, 116, 99, 104, 40, 110, 40, 88, 41, 44, 32, 101, 114, 114, 111, 114, 40, 69, 44, 32, 95, 41, 44, 32, 40, 88, 32, 61, 32, 69, 41, 41]), (bs [97, 100, 100, 40, 88, 41, 32, 58, 45, 32, 97, 115, 115, 101, 114, 116, 122, 40, 112, 40, 88, 41, 41]), (bs [100, 101, 108, 40, 88, 41, 32, 58, 45, 32, 114, 101, 116, 114, 97, 99, 116, 40, 112, 40, 88, 41, 41]), (bs [108, 111, 111, 112, 32, 58, 45, 32, 108, 111, 111, 112]), (bs [118, 40, 88, 41, 32, 58, 45, 32, 99, 97, 108, 108, 40, 112, 44, 32, 88, 41]), (bs [100, 40, 88, 44, 32, 89, 41, 32, 58, 45, 32, 88, 32, 61, 32, 89, 32, 59, 32, 89, 32, 61, 32, 98]), (bs [103, 40, 102, 40, 88, 41, 44, 32, 88, 41]), (bs [103, 40, 104, 40, 88, 41, 44, 32, 88, 41]), (bs [103, 40, 49, 44, 32, 111, 110, 101, 41]), (bs [107, 40, 88, 41, 32, 58, 45, 32, 117, 110, 107, 110, 111, 119, 110, 40, 88, 41]), (bs [121, 40, 88, 41, 32, 58, 45, 32, 112, 40, 88, 41, 44, 32, 97, 115, 115, 101, 114, 116, 122, 40, 112, 40, 100, 41, 41, 44, 32, 88, 32, 61, 32, 98])])), [(0, .app 9)]))], [], []⟩ _ (by kernel_rfl) (.cons (cl_cons (c := cS) (x := (bs [112, 40, 97, 41])) rfl (cl_cons (c := cS) (x := (bs [112, 40, 98, 41])) rfl (cl_cons (c := cS) (x := (bs [112, 40, 99, 41])) rfl (cl_cons (c := cS) (x := (bs [113, 40, 88, 41, 32, 58, 45, 32, 112, 40, 88, 41])) rfl (cl_cons (c := cS) (x := (bs [113, 40, 122, 41])) rfl (cl_cons (c := cS) (x := (bs [114, 40, 88, 44, 32, 89, 41, 32, 58, 45, 32, 112, 40, 88, 41, 44, 32, 113, 40, 89, 41])) rfl (cl_cons (c := cS) (x := (bs [97, 112, 112, 40, 91, 93, 44, 32, 76, 44, 32, 76, 41])) rfl (cl_cons (c := cS) (x := (bs [97, 112, 112, 40, 91, 72, 124, 84, 93, 44, 32, 76, 44, 32, 91, 72, 124, 82, 93, 41, 32, 58, 45, 32, 97, 112, 112, 40, 84, 44, 32, 76, 44, 32, 82, 41])) rfl (cl_cons (c := cS) (x := (bs [108, 101, 110, 40, 91, 93, 44, 32, 48, 41])) rfl (cl_cons (c := cS) (x := (bs [108, 101, 110, 40, 91, 95, 124, 84, 93, 44, 32, 78, 41, 32, 58, 45, 32, 108, 101, 110, 40, 84, 44, 32, 77, 41, 44, 32, 78, 32, 105, 115, 32, 77, 32, 43, 32, 49])) rfl (cl_cons (c := cS) (x := (bs [115, 40, 88, 41, 32, 58, 45, 32, 112, 40, 88, 41, 44, 32, 33])) rfl (cl_cons (c := cS) (x := (bs [115, 40, 122, 41])) rfl (cl_cons (c := cS) (x := (bs [116, 40, 88, 41, 32, 58, 45, 32, 40, 112, 40, 88, 41, 32, 45, 62, 32, 116, 114, 117, 101, 32, 59, 32, 88, 32, 61, 32, 110, 111, 110, 101, 41])) rfl (cl_cons (c := cS) (x := (bs [117, 40, 88, 41, 32, 58, 45, 32, 92, 43, 32, 112, 40, 88, 41])) rfl (cl_cons (c := cS) (x := (bs [119, 40, 88, 41, 32, 58, 45, 32, 112, 40, 88, 41, 44, 32, 119, 114, 105, 116, 101, 40, 88, 41])) rfl (cl_cons (c := cS) (x := (bs [99, 40, 88, 41, 32, 58, 45, 32, 99, 97, 116, 99, 104, 40, 112, 40, 88, 41, 44, 32, 95, 44, 32, 116, 114, 117, 101, 41])) rfl (cl_cons (c := cS) (x := (bs [101, 40, 88, 41, 32, 58, 45, 32, 99, 97, 116, 99, 104, 40, 116, 104, 114, 111, 119, 40, 88, 41, 44, 32, 89, 44, 32, 119, 114, 105, 116, 101, 40, 89, 41, 41])) rfl (cl_cons (c := cS) (x := (bs [110, 40, 88, 41, 32, 58, 45, 32, 88, 32, 105, 115, 32, 51, 32, 47, 47, 32, 48])) rfl (cl_cons (c := cS) (x := (bs [109, 40, 88, 41, 32, 58, 45, 32, 99, 97, 116, 99, 104, 40, 110, 40, 88, 41, 44, 32, 101, 114, 114, 111, 114, 40, 69, 44, 32, 95, 41, 44, 32, 40, 88, 32, 61, 32, 69, 41, 41])) rfl (cl_cons (c := cS) (x := (bs [97, 100, 100, 40, 88, 41, 32, 58, 45, 32, 97, 115, 115, 101, 114, 116, 122, 40, 112, 40, 88, 41, 41])) rfl (cl_cons (c := cS) (x := (bs [100, 101, 108, 40, 88, 41, 32, 58, 45, 32, 114, 101, 116, 114, 97, 99, 116, 40, 112, 40, 88, 41, 41])) rfl (cl_cons (c := cS) (x := (bs [108, 111, 111, 112, 32, 58, 45, 32, 108, 111, 111, 112])) rfl (cl_cons (c := cS) (x := (bs [118, 40, 88, 41, 32, 58, 45, 32, 99, 97, 108, 108, 40, 112, 44, 32, 88, 41])) rfl (cl_cons (c := cS) (x := (bs [100, 40, 88, 44, 32, 89, 41, 32, 58, 45, 32, 88, 32, 61, 32, 89, 32, 59, 32, 89, 32, 61, 32, 98])) rfl (cl_cons (c := cS) (x := (bs [103, 40, 102, 40, 88, 41, 44, 32, 88, 41])) rfl (cl_cons (c := cS) (x := (bs [103, 40, 104, 40, 88, 41, 44, 32, 88, 41])) rfl (cl_cons (c := cS) (x := (bs [103, 40, 49, 44, 32, 111, 110, 101, 41])) rfl (cl_cons (c := cS) (x := (bs [107, 40, 88, 41, 32, 58, 45, 32, 117, 110, 107, 110, 111, 119, 110, 40, 88, 41])) rfl (cl_cons (c := cS) (x := (bs [121, 40, 88, 41, 32, 58, 45, 32, 112, 40, 88, 41, 44, 32, 97, 115, 115, 101, 114, 116, 122, 40, 112, 40, 100, 41, 41, 44, 32, 88, 32, 61, 32, 98])) rfl (cl_nil cS)))))))))))))))))))))))))))))) .nil) ?_
  refine Wc.ret ?_
  obtain rfl := Option.some.inj h
  exact ⟨.inl rfl, by kernel_rfl, by kernel_rfl⟩

def pspec_l16Text_L1 (k : Nat) (l68_ : (List ByteArray)) : Nat → ByteArray → Int → GL01Cur → Option (Out (GL01Cur × ByteArray) (ByteArray × GL01Cur))
  | 0, _, _, _ => none
  | m + 1, c69_, b70_, g71_ =>
    (pspec_l01Below k g71_ 6).bind fun i74_ =>
    if (decide (b70_ < i74_.2)) = true then
      (pspec_l01Below k i74_.1 12).bind fun i75_ =>
      if (i75_.2 == 0) = true then
        if sumOk c69_ (bs [58, 45, 32, 105, 110, 99, 108, 117, 100, 101, 40, 116, 119, 111, 41, 46, 10]) then
          pspec_l16Text_L1 k l68_ m (c69_ ++ (bs [58, 45, 32, 105, 110, 99, 108, 117, 100, 101, 40, 116, 119, 111, 41, 46, 10])) (wr.i64 (b70_ + 1)) i75_.1
        else none
      else
        if (i75_.2 == 1) = true then
          if sumOk c69_ (bs [58, 45, 32, 105, 102, 40, 112, 40, 97, 41, 41, 46, 10]) then
            (pspec_l01Pick k i75_.1 l68_).bind fun m76_ =>
            if sumOk (c69_ ++ (bs [58, 45, 32, 105, 102, 40, 112, 40, 97, 41, 41, 46, 10])) m76_.2 then
              if sumOk ((c69_ ++ (bs [58, 45, 32, 105, 102, 40, 112, 40, 97, 41, 41, 46, 10])) ++ m76_.2) (bs [46, 10, 58, 45, 32, 101, 108, 115, 101, 46, 10, 122, 40, 49, 41, 46, 10, 58, 45, 32, 101, 110, 100, 105, 102, 46, 10]) then
                pspec_l16Text_L1 k l68_ m (((c69_ ++ (bs [58, 45, 32, 105, 102, 40, 112, 40, 97, 41, 41, 46, 10])) ++ m76_.2) ++ (bs [46, 10, 58, 45, 32, 101, 108, 115, 101, 46, 10, 122, 40, 49, 41, 46, 10, 58, 45, 32, 101, 110, 100, 105, 102, 46, 10])) (wr.i64 (b70_ + 1)) m76_.1
              else none
            else none
          else none
        else
          if (i75_.2 == 2) = true then
            if sumOk c69_ (bs [58, 45, 32, 111, 112, 101, 110, 40, 47, 40, 111, 44, 32, 49, 41, 41, 46, 10]) then
              pspec_l16Text_L1 k l68_ m (c69_ ++ (bs [58, 45, 32, 111, 112, 101, 110, 40, 47, 40, 111, 44, 32, 49, 41, 41, 46, 10])) (wr.i64 (b70_ + 1)) i75_.1
            else none
          else
            if (i75_.2 == 3) = true then
              if sumOk c69_ (bs [115, 32, 45, 45, 62, 32, 91, 97, 93, 44, 32, 115, 46, 10, 115, 32, 45, 45, 62, 32, 91, 93, 46, 10]) then
                pspec_l16Text_L1 k l68_ m (c69_ ++ (bs [115, 32, 45, 45, 62, 32, 91, 97, 93, 44, 32, 115, 46, 10, 115, 32, 45, 45, 62, 32, 91, 93, 46, 10])) (wr.i64 (b70_ + 1)) i75_.1
              else none
            else
              if (i75_.2 == 4) = true then
                if sumOk c69_ (bs [101, 120, 112, 97, 110, 100, 40, 111, 108, 100, 40, 88, 41, 44, 32, 112, 40, 88, 41, 41, 46, 10, 111, 108, 100, 40, 107, 41, 46, 10]) then
                  pspec_l16Text_L1 k l68_ m (c69_ ++ (bs [101, 120, 112, 97, 110, 100, 40, 111, 108, 100, 40, 88, 41, 44, 32, 112, 40, 88, 41, 41, 46, 10, 111, 108, 100, 40, 107, 41, 46, 10])) (wr.i64 (b70_ + 1)) i75_.1
                else none
              else
                if (i75_.2 == 5) = true then
                  if sumOk c69_ (bs [58, 45, 32, 119, 114, 105, 116, 101, 40, 120, 41, 46, 10, 58, 45, 32, 102, 97, 105, 108, 46, 10]) then
                    pspec_l16Text_L1 k l68_ m (c69_ ++ (bs [58, 45, 32, 119, 114, 105, 116, 101, 40, 120, 41, 46, 10, 58, 45, 32, 102, 97, 105, 108, 46, 10])) (wr.i64 (b70_ + 1)) i75_.1
                  else none
                else
                  if (i75_.2 == 6) = true then
                    (pspec_l01Pick k i75_.1 [(bs [97, 32, 98, 46, 10]), (bs [58, 45, 32, 101, 108, 115, 101, 46, 10]), (bs [58, 45, 32, 105, 102, 40, 116, 114, 117, 101, 41, 46, 10]), (bs [58, 45, 32, 101, 110, 100, 105, 102, 46, 10]), (bs [88, 46, 10]), (bs [116, 114, 117, 101, 46, 10]), (bs [58, 45, 32, 97, 115, 115, 101, 114, 116, 122, 40, 112, 40, 110, 41, 41, 46, 10]), (bs [58, 45, 32, 105, 110, 99, 108, 117, 100, 101, 40, 110, 111, 110, 101, 41, 46, 10])]).bind fun m77_ =>
                    if sumOk c69_ m77_.2 then
                      pspec_l16Text_L1 k l68_ m (c69_ ++ m77_.2) (wr.i64 (b70_ + 1)) m77_.1
                    else none
                  else
                    (pspec_l01Pick k i75_.1 l68_).bind fun m78_ =>
                    if sumOk c69_ m78_.2 then
                      if sumOk (c69_ ++ m78_.2) (bs [46, 10]) then
                        pspec_l16Text_L1 k l68_ m ((c69_ ++ m78_.2) ++ (bs [46, 10])) (wr.i64 (b70_ + 1)) m78_.1
                      else none
                    else none
    else
      some (.done (c69_, i74_.1))
/-- spec.l16Text -/
def pspec_l16Text (k : Nat) (g67_ : GL01Cur) : Option (GL01Cur × ByteArray) :=
  (pspec_l08Lines k).bind fun l68_ =>
  (pspec_l16Text_L1 k l68_ k (bs []) 0 g67_).bind fun out1 => match out1 with
  | .ret r => some r
  | .done (c72_, g73_) =>
    some (g73_, c72_)
set_option maxHeartbeats 4000000 in
theorem cspec_l16Text {k : Nat} {g67_ : GL01Cur} {r : GL01Cur × ByteArray} (h : pspec_l16Text k g67_ = some r) : FnO Try.prog 121 [.p [.sl (List.map cI.u8 g67_.gB), .int .i64 g67_.gI, .int .i64 g67_.gH] []] (.v (.str r.2) []) [(0, .p [.sl (List.map cI.u8 r.1.gB), .int .i64 r.1.gI, .int .i64 r.1.gH] [])] := by
  refine FnO.of Try.func121 (rfl : Try.f121.body = some _) (Nat.le_of_ble_eq_true (by kernel_rfl)) (Nat.le_of_ble_eq_true (by kernel_rfl)) ?_
  intro w0 X0 Fin pv0 pb gt
  unfold pspec_l16Text at h
  refine Wc.seq ?_
  refine Wc.region [] [] [0] [1000000] [] ⟨[(0, (.ptr 1000000 0, []))], [(1000000, .cells [.sl (List.map cI.u8 g67_.gB), .int .i64 g67_.gI, .int .i64 g67_.gH] [])], []⟩ _ (by kernel_rfl) .nil ?_
  refine Wc.seq ?_
  refine Wc.region [] [] [0, 3] [1000000] [] ⟨[(0, (.ptr 1000000 0, [])), (3, (.v (.str (bs [])), []))], [(1000000, .cells [.sl (List.map cI.u8 g67_.gB), .int .i64 g67_.gI, .int .i64 g67_.gH] [])], []⟩ _ (by kernel_rfl) .nil ?_
  refine Wc.seq ?_
  obtain ⟨l68_, h72, h⟩ := obind h
  refine Wc.region [{ r := some (.v (.sl (List.map cS l68_)) [(0, .app 9)]) }, { tk := [6] }] [] [0, 3, 4] [1000000] [] ⟨[(0, (.ptr 1000000 0, [])), (3, (.v (.str (bs [])), [])), (4, (.v (.sl (List.map cS l68_)), [(0, .app 9)]))], [(1000000, .cells [.sl (List.map cI.u8 g67_.gB), .int .i64 g67_.gI, .int .i64 g67_.gH] [])], []⟩ _ (by kernel_rfl) (.cons (cspec_l08Lines h72) .nil) ?_
  refine Wc.seq ?_
  refine Wc.seq ?_
  refine Wc.region [] [] [0, 3, 4, 5] [1000000] [] ⟨[(0, (.ptr 1000000 0, [])), (3, (.v (.str (bs [])), [])), (4, (.v (.sl (List.map cS l68_)), [(0, .app 9)])), (5, (.v (.int .i64 0), []))], [(1000000, .cells [.sl (List.map cI.u8 g67_.gB), .int .i64 g67_.gI, .int .i64 g67_.gH] [])], []⟩ _ (by kernel_rfl) .nil ?_
  obtain ⟨out1, h73, h⟩ := obind h
  refine Wc.lastJ (fun st => ∃ (c72_ : ByteArray) (g73_ : GL01Cur), out1 = .done (c72_, g73_) ∧ st = ⟨[(3, (.v (.str c72_), []))], [(1000000, .cells [.sl (List.map cI.u8 g73_.gB), .int .i64 g73_.gI, .int .i64 g73_.gH] [])], []⟩) ?_ ?_
  · refine Wc.block ?_
    refine Wc.loop (fun m st => ∃ (c69_ : ByteArray) (b70_ : Int) (g71_ : GL01Cur), st = ⟨[(0, (.ptr 1000000 0, [])), (3, (.v (.str c69_), [])), (4, (.v (.sl (List.map cS l68_)), [(0, .app 9)])), (5, (.v (.int .i64 b70_), []))], [(1000000, .cells [.sl (List.map cI.u8 g71_.gB), .int .i64 g71_.gI, .int .i64 g71_.gH] [])], []⟩ ∧ pspec_l16Text_L1 k l68_ m c69_ b70_ g71_ = some out1) ?_ k ⟨_, _, _, rfl, h73⟩
    rintro m st ⟨c69_, b70_, g71_, rfl, h73⟩
    cases m with
    | zero => exact (onone h73).elim
    | succ m =>
      refine Wc.seq ?_
      refine Wc.seq ?_
      obtain ⟨i74_, h74, h73⟩ := obind h73
      refine Wc.region [{}, {}, { r := some (.v (.int .i64 i74_.2) []), outs := [(0, .p [.sl (List.map cI.u8 i74_.1.gB), .int .i64 i74_.1.gI, .int .i64 i74_.1.gH] [])] }] [] [0, 3, 4, 5, 10] [1000000] [] ⟨[(0, (.ptr 1000000 0, [])), (3, (.v (.str c69_), [])), (4, (.v (.sl (List.map cS l68_)), [(0, .app 9)])), (5, (.v (.int .i64 b70_), [])), (10, (.v (.bool (decide (b70_ < i74_.2))), []))], [(1000000, .cells [.sl (List.map cI.u8 i74_.1.gB), .int .i64 i74_.1.gI, .int .i64 i74_.1.gH] [])], []⟩ _ (by kernel_rfl) (.cons (cspec_l01Below h74) .nil) ?_
      rcases oif h73 with ⟨h75, h73⟩ | ⟨h75, h73⟩
      · refine Wc.condT h75 (by kernel_rfl) ?_
        refine Wc.fix (st' := ⟨[(0, (.ptr 1000000 0, [])), (3, (.v (.str c69_), [])), (4, (.v (.sl (List.map cS l68_)), [(0, .app 9)])), (5, (.v (.int .i64 b70_), []))], [(1000000, .cells [.sl (List.map cI.u8 i74_.1.gB), .int .i64 i74_.1.gI, .int .i64 i74_.1.gH] [])], []⟩) [] [0, 3, 4, 5] [1000000] [] (by kernel_rfl) ?_
        refine Wc.skip ?_
        refine Wc.seq ?_
        refine Wc.block ?_
        refine Wc.seq ?_
        obtain ⟨i75_, h76, h73⟩ := obind h73
        refine Wc.region [{}, { r := some (.v (.int .i64 i75_.2) []), outs := [(0, .p [.sl (List.map cI.u8 i75_.1.gB), .int .i64 i75_.1.gI, .int .i64 i75_.1.gH] [])] }] [] [0, 3, 4, 5, 14] [1000000] [] ⟨[(0, (.ptr 1000000 0, [])), (3, (.v (.str c69_), [])), (4, (.v (.sl (List.map cS l68_)), [(0, .app 9)])), (5, (.v (.int .i64 b70_), [])), (14, (.v (.int .i64 i75_.2), []))], [(1000000, .cells [.sl (List.map cI.u8 i75_.1.gB), .int .i64 i75_.1.gI, .int .i64 i75_.1.gH] [])], []⟩ _ (by kernel_rfl) (.cons (cspec_l01Below h76) .nil) ?_
        refine Wc.block ?_
        refine Wc.seq ?_
        refine Wc.region [] [] [0, 3, 4, 5, 14, 21] [1000000] [] ⟨[(0, (.ptr 1000000 0, [])), (3, (.v (.str c69_), [])), (4, (.v (.sl (List.map cS l68_)), [(0, .app 9)])), (5, (.v (.int .i64 b70_), [])), (14, (.v (.int .i64 i75_.2), [])), (21, (.v (.bool (i75_.2 == 0)), []))], [(1000000, .cells [.sl (List.map cI.u8 i75_.1.gB), .int .i64 i75_.1.gI, .int .i64 i75_.1.gH] [])], []⟩ _ (by kernel_rfl) .nil ?_
        rcases oif h73 with ⟨h77, h73⟩ | ⟨h77, h73⟩
        · refine Wc.condT h77 (by kernel_rfl) ?_
          obtain ⟨h78, h73⟩ := oguard h73
          refine Wc.region [] [] [0, 3, 4, 5] [1000000] [] ⟨[(0, (.ptr 1000000 0, [])), (3, (.v (.str (c69_ ++ (bs [58, 45, 32, 105, 110, 99, 108, 117, 100, 101, 40, 116, 119, 111, 41, 46, 10]))), [])), (4, (.v (.sl (List.map cS l68_)), [(0, .app 9)])), (5, (.v (.int .i64 b70_), []))], [(1000000, .cells [.sl (List.map cI.u8 i75_.1.gB), .int .i64 i75_.1.gI, .int .i64 i75_.1.gH] [])], []⟩ _ (by kernel_rfl) (.cons h78 .nil) ?_
          refine Wc.region [] [] [0, 3, 4, 5] [1000000] [] ⟨[(0, (.ptr 1000000 0, [])), (3, (.v (.str (c69_ ++ (bs [58, 45, 32, 105, 110, 99, 108, 117, 100, 101, 40, 116, 119, 111, 41, 46, 10]))), [])), (4, (.v (.sl (List.map cS l68_)), [(0, .app 9)])), (5, (.v (.int .i64 (wr.i64 (b70_ + 1))), []))], [(1000000, .cells [.sl (List.map cI.u8 i75_.1.gB), .int .i64 i75_.1.gI, .int .i64 i75_.1.gH] [])], []⟩ _ (by kernel_rfl) .nil ?_
          exact ⟨_, Nat.lt_succ_self _, _, _, _, rfl, h73⟩
        · refine Wc.condF h77 (by kernel_rfl) ?_
          refine Wc.seq ?_
          refine Wc.region [] [] [0, 3, 4, 5, 14, 25] [1000000] [] ⟨[(0, (.ptr 1000000 0, [])), (3, (.v (.str c69_), [])), (4, (.v (.sl (List.map cS l68_)), [(0, .app 9)])), (5, (.v (.int .i64 b70_), [])), (14, (.v (.int .i64 i75_.2), [])), (25, (.v (.bool (i75_.2 == 1)), []))], [(1000000, .cells [.sl (List.map cI.u8 i75_.1.gB), .int .i64 i75_.1.gI, .int .i64 i75_.1.gH] [])], []⟩ _ (by kernel_rfl) .nil ?_
          rcases oif h73 with ⟨h79, h73⟩ | ⟨h79, h73⟩
          · refine Wc.condT h79 (by kernel_rfl) ?_
            obtain ⟨h80, h73⟩ := oguard h73
            obtain ⟨m76_, h81, h73⟩ := obind h73
            obtain ⟨h82, h73⟩ := oguard h73
            obtain ⟨h83, h73⟩ := oguard h73
            refine Wc.region [{}, {}, {}, {}, { r := some (.v (.str m76_.2) []), outs := [(0, .p [.sl (List.map cI.u8 m76_.1.gB), .int .i64 m76_.1.gI, .int .i64 m76_.1.gH] [])] }] [] [0, 3, 4, 5] [1000000] [] ⟨[(0, (.ptr 1000000 0, [])), (3, (.v (.str (((c69_ ++ (bs [58, 45, 32, 105, 102, 40, 112, 40, 97, 41, 41, 46, 10])) ++ m76_.2) ++ (bs [46, 10, 58, 45, 32, 101, 108, 115, 101, 46, 10, 122, 40, 49, 41, 46, 10, 58, 45, 32, 101, 110, 100, 105, 102, 46, 10]))), [])), (4, (.v (.sl (List.map cS l68_)), [(0, .app 9)])), (5, (.v (.int .i64 b70_), []))], [(1000000, .cells [.sl (List.map cI.u8 m76_.1.gB), .int .i64 m76_.1.gI, .int .i64 m76_.1.gH] [])], []⟩ _ (by kernel_rfl) (.cons h80 (.cons (cspec_l01Pick h81) (.cons h82 (.cons h83 .nil)))) ?_
            refine Wc.region [] [] [0, 3, 4, 5] [1000000] [] ⟨[(0, (.ptr 1000000 0, [])), (3, (.v (.str (((c69_ ++ (bs [58, 45, 32, 105, 102, 40, 112, 40, 97, 41, 41, 46, 10])) ++ m76_.2) ++ (bs [46, 10, 58, 45, 32, 101, 108, 115, 101, 46, 10, 122, 40, 49, 41, 46, 10, 58, 45, 32, 101, 110, 100, 105, 102, 46, 10]))), [])), (4, (.v (.sl (List.map cS l68_)), [(0, .app 9)])), (5, (.v (.int .i64 (wr.i64 (b70_ + 1))), []))], [(1000000, .cells [.sl (List.map cI.u8 m76_.1.gB), .int .i64 m76_.1.gI, .int .i64 m76_.1.gH] [])], []⟩ _ (by kernel_rfl) .nil ?_
            exact ⟨_, Nat.lt_succ_self _, _, _, _, rfl, h73⟩
          · refine Wc.condF h79 (by kernel_rfl) ?_
            refine Wc.seq ?_
            refine Wc.region [] [] [0, 3, 4, 5, 14, 34] [1000000] [] ⟨[(0, (.ptr 1000000 0, [])), (3, (.v (.str c69_), [])), (4, (.v (.sl (List.map cS l68_)), [(0, .app 9)])), (5, (.v (.int .i64 b70_), [])), (14, (.v (.int .i64 i75_.2), [])), (34, (.v (.bool (i75_.2 == 2)), []))], [(1000000, .cells [.sl (List.map cI.u8 i75_.1.gB), .int .i64 i75_.1.gI, .int .i64 i75_.1.gH] [])], []⟩ _ (by kernel_rfl) .nil ?_
            rcases oif h73 with ⟨h84, h73⟩ | ⟨h84, h73⟩
            · refine Wc.condT h84 (by kernel_rfl) ?_
              obtain ⟨h85, h73⟩ := oguard h73
              refine Wc.region [] [] [0, 3, 4, 5] [1000000] [] ⟨[(0, (.ptr 1000000 0, [])), (3, (.v (.str (c69_ ++ (bs [58, 45, 32, 111, 112, 101, 110, 40, 47, 40, 111, 44, 32, 49, 41, 41, 46, 10]))), [])), (4, (.v (.sl (List.map cS l68_)), [(0, .app 9)])), (5, (.v (.int .i64 b70_), []))], [(1000000, .cells [.sl (List.map cI.u8 i75_.1.gB), .int .i64 i75_.1.gI, .int .i64 i75_.1.gH] [])], []⟩ _ (by kernel_rfl) (.cons h85 .nil) ?_
              refine Wc.region [] [] [0, 3, 4, 5] [1000000] [] ⟨[(0, (.ptr 1000000 0, [])), (3, (.v (.str (c69_ ++ (bs [58, 45, 32, 111, 112, 101, 110, 40, 47, 40, 111, 44, 32, 49, 41, 41, 46, 10]))), [])), (4, (.v (.sl (List.map cS l68_)), [(0, .app 9)])), (5, (.v (.int .i64 (wr.i64 (b70_ + 1))), []))], [(1000000, .cells [.sl (List.map cI.u8 i75_.1.gB), .int .i64 i75_.1.gI, .int .i64 i75_.1.gH] [])], []⟩ _ (by kernel_rfl) .nil ?_
              exact ⟨_, Nat.lt_succ_self _, _, _, _, rfl, h73⟩
            · refine Wc.condF h84 (by kernel_rfl) ?_
              refine Wc.seq ?_
              refine Wc.region [] [] [0, 3, 4, 5, 14, 38] [1000000] [] ⟨[(0, (.ptr 1000000 0, [])), (3, (.v (.str c69_), [])), (4, (.v (.sl (List.map cS l68_)), [(0, .app 9)])), (5, (.v (.int .i64 b70_), [])), (14, (.v (.int .i64 i75_.2), [])), (38, (.v (.bool (i75_.2 == 3)), []))], [(1000000, .cells [.sl (List.map cI.u8 i75_.1.gB), .int .i64 i75_.1.gI, .int .i64 i75_.1.gH] [])], []⟩ _ (by kernel_rfl) .nil ?_
              rcases oif h73 with ⟨h86, h73⟩ | ⟨h86, h73⟩
              · refine Wc.condT h86 (by kernel_rfl) ?_
                obtain ⟨h87, h73⟩ := oguard h73
                refine Wc.region [] [] [0, 3, 4, 5] [1000000] [] ⟨[(0, (.ptr 1000000 0, [])), (3, (.v (.str (c69_ ++ (bs [115, 32, 45, 45, 62, 32, 91, 97, 93, 44, 32, 115, 46, 10, 115, 32, 45, 45, 62, 32, 91, 93, 46, 10]))), [])), (4, (.v (.sl (List.map cS l68_)), [(0, .app 9)])), (5, (.v (.int .i64 b70_), []))], [(1000000, .cells [.sl (List.map cI.u8 i75_.1.gB), .int .i64 i75_.1.gI, .int .i64 i75_.1.gH] [])], []⟩ _ (by kernel_rfl) (.cons h87 .nil) ?_
                refine Wc.region [] [] [0, 3, 4, 5] [1000000] [] ⟨[(0, (.ptr 1000000 0, [])), (3, (.v (.str (c69_ ++ (bs [115, 32, 45, 45, 62, 32, 91, 97, 93, 44, 32, 115, 46, 10, 115, 32, 45, 45, 62, 32, 91, 93, 46, 10]))), [])), (4, (.v (.sl (List.map cS l68_)), [(0, .app 9)])), (5, (.v (.int .i64 (wr.i64 (b70_ + 1))), []))], [(1000000, .cells [.sl (List.map cI.u8 i75_.1.gB), .int .i64 i75_.1.gI, .int .i64 i75_.1.gH] [])], []⟩ _ (by kernel_rfl) .nil ?_
                exact ⟨_, Nat.lt_succ_self _, _, _, _, rfl, h73⟩
              · refine Wc.condF h86 (by kernel_rfl) ?_
                refine Wc.seq ?_
                refine Wc.region [] [] [0, 3, 4, 5, 14, 42] [1000000] [] ⟨[(0, (.ptr 1000000 0, [])), (3, (.v (.str c69_), [])), (4, (.v (.sl (List.map cS l68_)), [(0, .app 9)])), (5, (.v (.int .i64 b70_), [])), (14, (.v (.int .i64 i75_.2), [])), (42, (.v (.bool (i75_.2 == 4)), []))], [(1000000, .cells [.sl (List.map cI.u8 i75_.1.gB), .int .i64 i75_.1.gI, .int .i64 i75_.1.gH] [])], []⟩ _ (by kernel_rfl) .nil ?_
                rcases oif h73 with ⟨h88, h73⟩ | ⟨h88, h73⟩
                · refine Wc.condT h88 (by kernel_rfl) ?_
                  obtain ⟨h89, h73⟩ := oguard h73
                  refine Wc.region [] [] [0, 3, 4, 5] [1000000] [] ⟨[(0, (.ptr 1000000 0, [])), (3, (.v (.str (c69_ ++ (bs [101, 120, 112, 97, 110, 100, 40, 111, 108, 100, 40, 88, 41, 44, 32, 112, 40, 88, 41, 41, 46, 10, 111, 108, 100, 40, 107, 41, 46, 10]))), [])), (4, (.v (.sl (List.map cS l68_)), [(0, .app 9)])), (5, (.v (.int .i64 b70_), []))], [(1000000, .cells [.sl (List.map cI.u8 i75_.1.gB), .int .i64 i75_.1.gI, .int .i64 i75_.1.gH] [])], []⟩ _ (by kernel_rfl) (.cons h89 .nil) ?_
                  refine Wc.region [] [] [0, 3, 4, 5] [1000000] [] ⟨[(0, (.ptr 1000000 0, [])), (3, (.v (.str (c69_ ++ (bs [101, 120, 112, 97, 110, 100, 40, 111, 108, 100, 40, 88, 41, 44, 32, 112, 40, 88, 41, 41, 46, 10, 111, 108, 100, 40, 107, 41, 46, 10]))), [])), (4, (.v (.sl (List.map cS l68_)), [(0, .app 9)])), (5, (.v (.int .i64 (wr.i64 (b70_ + 1))), []))], [(1000000, .cells [.sl (List.map cI.u8 i75_.1.gB), .int .i64 i75_.1.gI, .int .i64 i75_.1.gH] [])], []⟩ _ (by kernel_rfl) .nil ?_
                  exact ⟨_, Nat.lt_succ_self _, _, _, _, rfl, h73⟩
                · refine Wc.condF h88 (by kernel_rfl) ?_
                  refine Wc.seq ?_
                  refine Wc.region [] [] [0, 3, 4, 5, 14, 46] [1000000] [] ⟨[(0, (.ptr 1000000 0, [])), (3, (.v (.str c69_), [])), (4, (.v (.sl (List.map cS l68_)), [(0, .app 9)])), (5, (.v (.int .i64 b70_), [])), (14, (.v (.int .i64 i75_.2), [])), (46, (.v (.bool (i75_.2 == 5)), []))], [(1000000, .cells [.sl (List.map cI.u8 i75_.1.gB), .int .i64 i75_.1.gI, .int .i64 i75_.1.gH] [])], []⟩ _ (by kernel_rfl) .nil ?_
                  rcases oif h73 with ⟨h90, h73⟩ | ⟨h90, h73⟩
                  · refine Wc.condT h90 (by kernel_rfl) ?_
                    obtain ⟨h91, h73⟩ := oguard h73
                    refine Wc.region [] [] [0, 3, 4, 5] [1000000] [] ⟨[(0, (.ptr 1000000 0, [])), (3, (.v (.str (c69_ ++ (bs [58, 45, 32, 119, 114, 105, 116, 101, 40, 120, 41, 46, 10, 58, 45, 32, 102, 97, 105, 108, 46, 10]))), [])), (4, (.v (.sl (List.map cS l68_)), [(0, .app 9)])), (5, (.v (.int .i64 b70_), []))], [(1000000, .cells [.sl (List.map cI.u8 i75_.1.gB), .int .i64 i75_.1.gI, .int .i64 i75_.1.gH] [])], []⟩ _ (by kernel_rfl) (.cons h91 .nil) ?_
                    refine Wc.region [] [] [0, 3, 4, 5] [1000000] [] ⟨[(0, (.ptr 1000000 0, [])), (3, (.v (.str (c69_ ++ (bs [58, 45, 32, 119, 114, 105, 116, 101, 40, 120, 41, 46, 10, 58, 45, 32, 102, 97, 105, 108, 46, 10]))), [])), (4, (.v (.sl (List.map cS l68_)), [(0, .app 9)])), (5, (.v (.int .i64 (wr.i64 (b70_ + 1))), []))], [(1000000, .cells [.sl (List.map cI.u8 i75_.1.gB), .int .i64 i75_.1.gI, .int .i64 i75_.1.gH] [])], []⟩ _ (by kernel_rfl) .nil ?_
                    exact ⟨_, Nat.lt_succ_self _, _, _, _, rfl, h73⟩
                  · refine Wc.condF h90 (by kernel_rfl) ?_
                    refine Wc.seq ?_
                    refine Wc.region [] [] [0, 3, 4, 5, 50] [1000000] [] ⟨[(0, (.ptr 1000000 0, [])), (3, (.v (.str c69_), [])), (4, (.v (.sl (List.map cS l68_)), [(0, .app 9)])), (5, (.v (.int .i64 b70_), [])), (50, (.v (.bool (i75_.2 == 6)), []))], [(1000000, .cells [.sl (List.map cI.u8 i75_.1.gB), .int .i64 i75_.1.gI, .int .i64 i75_.1.gH] [])], []⟩ _ (by kernel_rfl) .nil ?_
                    rcases oif h73 with ⟨h92, h73⟩ | ⟨h92, h73⟩
                    · refine Wc.condT h92 (by kernel_rfl) ?_
                      obtain ⟨m77_, h93, h73⟩ := obind h73
                      obtain ⟨h94, h73⟩ := oguard h73
                      refine Wc.region [{}, {}, { c := some (List.map cS [(bs [97, 32, 98, 46, 10]), (bs [58, 45, 32, 101, 108, 115, 101, 46, 10]), (bs [58, 45, 32, 105, 102, 40, 116, 114, 117, 101, 41, 46, 10]), (bs [58, 45, 32, 101, 110, 100, 105, 102, 46, 10]), (bs [88, 46, 10]), (bs [116, 114, 117, 101, 46, 10]), (bs [58, 45, 32, 97, 115, 115, 101, 114, 116, 122, 40, 112, 40, 110, 41, 41, 46, 10]), (bs [58, 45, 32, 105, 110, 99, 108, 117, 100, 101, 40, 110, 111, 110, 101, 41, 46, 10])]) }, { r := some (.v (.str m77_.2) []), outs := [(0, .p [.sl (List.map cI.u8 m77_.1.gB), .int .i64 m77_.1.gI, .int .i64 m77_.1.gH] [])] }] [] [0, 3, 4, 5] [1000000] [] ⟨[(0, (.ptr 1000000 0, [])), (3, (.v (.str (c69_ ++ m77_.2)), [])), (4, (.v (.sl (List.map cS l68_)), [(0, .app 9)])), (5, (.v (.int .i64 b70_), []))], [(1000000, .cells [.sl (List.map cI.u8 m77_.1.gB), .int .i64 m77_.1.gI, .int .i64 m77_.1.gH] [])], []⟩ _ (by kernel_rfl) (.cons (cl_cons (c := cS) (x := (bs [97, 32, 98, 46, 10])) rfl (cl_cons (c := cS) (x := (bs [58, 45, 32, 101, 108, 115, 101, 46, 10])) rfl (cl_cons (c := cS) (x := (bs [58, 45, 32, 105, 102, 40, 116, 114, 117, 101, 41, 46, 10])) rfl (cl_cons (c := cS) (x := (bs [58, 45, 32, 101, 110, 100, 105, 102, 46, 10])) rfl (cl_cons (c := cS) (x := (bs [88, 46, 10])) rfl (cl_cons (c := cS) (x := (bs [116, 114, 117, 101, 46, 10])) rfl (cl_cons (c := cS) (x := (bs [58, 45, 32, 97, 115, 115, 101, 114, 116, 122, 40, 112, 40, 110, 41, 41, 46, 10])) rfl (cl_cons (c := cS) (x := (bs [58, 45, 32, 105, 110, 99, 108, 117, 100, 101, 40, 110, 111, 110, 101, 41, 46, 10])) rfl (cl_nil cS))))))))) (.cons (cspec_l01Pick h93) (.cons h94 .nil))) ?_
                      refine Wc.region [] [] [0, 3, 4, 5] [1000000] [] ⟨[(0, (.ptr 1000000 0, [])), (3, (.v (.str (c69_ ++ m77_.2)), [])), (4, (.v (.sl (List.map cS l68_)), [(0, .app 9)])), (5, (.v (.int .i64 (wr.i64 (b70_ + 1))), []))], [(1000000, .cells [.sl (List.map cI.u8 m77_.1.gB), .int .i64 m77_.1.gI, .int .i64 m77_.1.gH] [])], []⟩ _ (by kernel_rfl) .nil ?_
                      exact ⟨_, Nat.lt_succ_self _, _, _, _, rfl, h73⟩
                    · refine Wc.condF h92 (by kernel_rfl) ?_
                      obtain ⟨m78_, h95, h73⟩ := obind h73
                      obtain ⟨h96, h73⟩ := oguard h73
                      obtain ⟨h97, h73⟩ := oguard h73
                      refine Wc.region [{}, {}, {}, { r := some (.v (.str m78_.2) []), outs := [(0, .p [.sl (List.map cI.u8 m78_.1.gB), .int .i64 m78_.1.gI, .int .i64 m78_.1.gH] [])] }] [] [0, 3, 4, 5] [1000000] [] ⟨[(0, (.ptr 1000000 0, [])), (3, (.v (.str ((c69_ ++ m78_.2) ++ (bs [46, 10]))), [])), (4, (.v (.sl (List.map cS l68_)), [(0, .app 9)])), (5, (.v (.int .i64 b70_), []))], [(1000000, .cells [.sl (List.map cI.u8 m78_.1.gB), .int .i64 m78_.1.gI, .int .i64 m78_.1.gH] [])], []⟩ _ (by kernel_rfl) (.cons (cspec_l01Pick h95) (.cons h96 (.cons h97 .nil))) ?_
                      refine Wc.region [] [] [0, 3, 4, 5] [1000000] [] ⟨[(0, (.ptr 1000000 0, [])), (3, (.v (.str ((c69_ ++ m78_.2) ++ (bs [46, 10]))), [])), (4, (.v (.sl (List.map cS l68_)), [(0, .app 9)])), (5, (.v (.int .i64 (wr.i64 (b70_ + 1))), []))], [(1000000, .cells [.sl (List.map cI.u8 m78_.1.gB), .int .i64 m78_.1.gI, .int .i64 m78_.1.gH] [])], []⟩ _ (by kernel_rfl) .nil ?_
                      exact ⟨_, Nat.lt_succ_self _, _, _, _, rfl, h73⟩
      · refine Wc.condF h75 (by kernel_rfl) ?_
        refine Wc.fix (st' := ⟨[(3, (.v (.str c69_), []))], [(1000000, .cells [.sl (List.map cI.u8 i74_.1.gB), .int .i64 i74_.1.gI, .int .i64 i74_.1.gH] [])], []⟩) [] [3] [1000000] [] (by kernel_rfl) ?_
        refine Wc.exit ?_
        obtain rfl := Option.some.inj h73
        exact ⟨_, _, rfl, rfl⟩
  · rintro st ⟨c72_, g73_, rfl, rfl⟩
    refine Wc.seq ?_
    refine Wc.region [] [] [2] [1000000] [] ⟨[(2, (.v (.str c72_), []))], [(1000000, .cells [.sl (List.map cI.u8 g73_.gB), .int .i64 g73_.gI, .int .i64 g73_.gH] [])], []⟩ _ (by kernel_rfl) .nil ?_
    refine Wc.ret ?_
    obtain rfl := Option.some.inj h
    exact ⟨.inl rfl, by kernel_rfl, by kernel_rfl⟩

def pspec_l16Files_L1 (k : Nat) : Nat → (List GFile) → Int → GL01Cur → Option (Out (GL01Cur × (List GFile)) ((List GFile) × GL01Cur))
  | 0, _, _, _ => none
  | m + 1, e80_, b81_, g82_ =>
    if (decide (b81_ < ([(bs [111, 110, 101]), (bs [116, 119, 111]), (bs [122, 111, 111])].length : Int))) = true then
      (pspec_l01Once k g82_ 4).bind fun n85_ =>
      if (!n85_.2) = true then
        (at' [(bs [111, 110, 101]), (bs [116, 119, 111]), (bs [122, 111, 111])] b81_).bind fun c86_ =>
        (pspec_l16Text k n85_.1).bind fun m87_ =>
        (pspec_Stored k e80_ c86_ m87_.2).bind fun o88_ =>
        pspec_l16Files_L1 k m o88_.1 (wr.i64 (b81_ + 1)) m87_.1
      else
        pspec_l16Files_L1 k m e80_ (wr.i64 (b81_ + 1)) n85_.1
    else
      some (.done (e80_, g82_))
/-- spec.l16Files -/
def pspec_l16Files (k : Nat) (g79_ : GL01Cur) : Option (GL01Cur × (List GFile)) :=
  (pspec_l16Files_L1 k k [] 0 g79_).bind fun out1 => match out1 with
  | .ret r => some r
  | .done (e83_, g84_) =>
    some (g84_, e83_)
theorem cspec_l16Files {k : Nat} {g79_ : GL01Cur} {r : GL01Cur × (List GFile)} (h : pspec_l16Files k g79_ = some r) : FnO Try.prog 62 [.p [.sl (List.map cI.u8 g79_.gB), .int .i64 g79_.gI, .int .i64 g79_.gH] []] (.v (.sl (List.map GFile.c r.2)) []) [(0, .p [.sl (List.map cI.u8 r.1.gB), .int .i64 r.1.gI, .int .i64 r.1.gH] [])] := by
  refine FnO.of Try.func62 (rfl : Try.f62.body = some _) (Nat.le_of_ble_eq_true (by kernel_rfl)) (Nat.le_of_ble_eq_true (by kernel_rfl)) ?_
  intro w0 X0 Fin pv0 pb gt
  unfold pspec_l16Files at h
  refine Wc.seq ?_
  refine Wc.region [] [] [0] [1000000] [] ⟨[(0, (.ptr 1000000 0, []))], [(1000000, .cells [.sl (List.map cI.u8 g79_.gB), .int .i64 g79_.gI, .int .i64 g79_.gH] [])], []⟩ _ (by kernel_rfl) .nil ?_
  refine Wc.seq ?_
  refine Wc.region [{ c := some (List.map GFile.c []) }, { tk := [6] }] [] [0, 3] [1000000] [] ⟨[(0, (.ptr 1000000 0, [])), (3, (.v (.sl (List.map GFile.c [])), [(0, .app 31)]))], [(1000000, .cells [.sl (List.map cI.u8 g79_.gB), .int .i64 g79_.gI, .int .i64 g79_.gH] [])], []⟩ _ (by kernel_rfl) (.cons (cl_nil GFile.c) .nil) ?_
  refine Wc.seq ?_
  refine Wc.region [{ c := some (List.map cS [(bs [111, 110, 101]), (bs [116, 119, 111]), (bs [122, 111, 111])]) }, { tk := [7] }] [] [0, 3, 4] [1000000] [] ⟨[(0, (.ptr 1000000 0, [])), (3, (.v (.sl (List.map GFile.c [])), [(0, .app 31)])), (4, (.v (.sl (List.map cS [(bs [111, 110, 101]), (bs [116, 119, 111]), (bs [122, 111, 111])])), [(0, .app 9)]))], [(1000000, .cells [.sl (List.map cI.u8 g79_.gB), .int .i64 g79_.gI, .int .i64 g79_.gH] [])], []⟩ _ (by kernel_rfl) (.cons (cl_cons (c := cS) (x := (bs [111, 110, 101])) rfl (cl_cons (c := cS) (x := (bs [116, 119, 111])) rfl (cl_cons (c := cS) (x := (bs [122, 111, 111])) rfl (cl_nil cS)))) .nil) ?_
  refine Wc.seq ?_
  refine Wc.seq ?_
  refine Wc.region [] [] [0, 3, 4, 5] [1000000] [] ⟨[(0, (.ptr 1000000 0, [])), (3, (.v (.sl (List.map GFile.c [])), [(0, .app 31)])), (4, (.v (.sl (List.map cS [(bs [111, 110, 101]), (bs [116, 119, 111]), (bs [122, 111, 111])])), [(0, .app 9)])), (5, (.v (.int .i64 0), []))], [(1000000, .cells [.sl (List.map cI.u8 g79_.gB), .int .i64 g79_.gI, .int .i64 g79_.gH] [])], []⟩ _ (by kernel_rfl) .nil ?_
  obtain ⟨out1, h98, h⟩ := obind h
  refine Wc.lastJ (fun st => ∃ (e83_ : List GFile) (g84_ : GL01Cur), out1 = .done (e83_, g84_) ∧ st = ⟨[(3, (.v (.sl (List.map GFile.c e83_)), []))], [(1000000, .cells [.sl (List.map cI.u8 g84_.gB), .int .i64 g84_.gI, .int .i64 g84_.gH] [])], []⟩) ?_ ?_
  · refine Wc.block ?_
    refine Wc.fix (st' := ⟨[(0, (.ptr 1000000 0, [])), (3, (.v (.sl (List.map GFile.c [])), [])), (4, (.v (.sl (List.map cS [(bs [111, 110, 101]), (bs [116, 119, 111]), (bs [122, 111, 111])])), [(0, .app 9)])), (5, (.v (.int .i64 0), []))], [(1000000, .cells [.sl (List.map cI.u8 g79_.gB), .int .i64 g79_.gI, .int .i64 g79_.gH] [])], []⟩) [.un (.t 3 0)] [0, 3, 4, 5] [1000000] [] (by kernel_rfl) ?_
    refine Wc.loop (fun m st => ∃ (e80_ : List GFile) (b81_ : Int) (g82_ : GL01Cur), st = ⟨[(0, (.ptr 1000000 0, [])), (3, (.v (.sl (List.map GFile.c e80_)), [])), (4, (.v (.sl (List.map cS [(bs [111, 110, 101]), (bs [116, 119, 111]), (bs [122, 111, 111])])), [(0, .app 9)])), (5, (.v (.int .i64 b81_), []))], [(1000000, .cells [.sl (List.map cI.u8 g82_.gB), .int .i64 g82_.gI, .int .i64 g82_.gH] [])], []⟩ ∧ pspec_l16Files_L1 k m e80_ b81_ g82_ = some out1) ?_ k ⟨_, _, _, rfl, h98⟩
    rintro m st ⟨e80_, b81_, g82_, rfl, h98⟩
    cases m with
    | zero => exact (onone h98).elim
    | succ m =>
      refine Wc.seq ?_
      refine Wc.seq ?_
      refine Wc.region [{}, {}, { v := some (.int .i64 ([(bs [111, 110, 101]), (bs [116, 119, 111]), (bs [122, 111, 111])].length : Int)) }] [] [0, 3, 4, 5, 11] [1000000] [] ⟨[(0, (.ptr 1000000 0, [])), (3, (.v (.sl (List.map GFile.c e80_)), [])), (4, (.v (.sl (List.map cS [(bs [111, 110, 101]), (bs [116, 119, 111]), (bs [122, 111, 111])])), [(0, .app 9)])), (5, (.v (.int .i64 b81_), [])), (11, (.v (.bool (decide (b81_ < ([(bs [111, 110, 101]), (bs [116, 119, 111]), (bs [122, 111, 111])].length : Int)))), []))], [(1000000, .cells [.sl (List.map cI.u8 g82_.gB), .int .i64 g82_.gI, .int .i64 g82_.gH] [])], []⟩ _ (by kernel_rfl) (.cons (len_obl cS [(bs [111, 110, 101]), (bs [116, 119, 111]), (bs [122, 111, 111])]) .nil) ?_
      rcases oif h98 with ⟨h99, h98⟩ | ⟨h99, h98⟩
      · refine Wc.condT h99 (by kernel_rfl) ?_
        refine Wc.fix (st' := ⟨[(0, (.ptr 1000000 0, [])), (3, (.v (.sl (List.map GFile.c e80_)), [])), (4, (.v (.sl (List.map cS [(bs [111, 110, 101]), (bs [116, 119, 111]), (bs [122, 111, 111])])), [(0, .app 9)])), (5, (.v (.int .i64 b81_), []))], [(1000000, .cells [.sl (List.map cI.u8 g82_.gB), .int .i64 g82_.gI, .int .i64 g82_.gH] [])], []⟩) [] [0, 3, 4, 5] [1000000] [] (by kernel_rfl) ?_
        refine Wc.skip ?_
        refine Wc.seq ?_
        refine Wc.block ?_
        refine Wc.seq ?_
        obtain ⟨n85_, h100, h98⟩ := obind h98
        refine Wc.region [{}, { r := some (.v (.bool n85_.2) []), outs := [(0, .p [.sl (List.map cI.u8 n85_.1.gB), .int .i64 n85_.1.gI, .int .i64 n85_.1.gH] [])] }] [] [0, 3, 4, 5, 16] [1000000] [] ⟨[(0, (.ptr 1000000 0, [])), (3, (.v (.sl (List.map GFile.c e80_)), [])), (4, (.v (.sl (List.map cS [(bs [111, 110, 101]), (bs [116, 119, 111]), (bs [122, 111, 111])])), [(0, .app 9)])), (5, (.v (.int .i64 b81_), [])), (16, (.v (.bool (!n85_.2)), []))], [(1000000, .cells [.sl (List.map cI.u8 n85_.1.gB), .int .i64 n85_.1.gI, .int .i64 n85_.1.gH] [])], []⟩ _ (by kernel_rfl) (.cons (cspec_l01Once h100) .nil) ?_
        rcases oif h98 with ⟨h101, h98⟩ | ⟨h101, h98⟩
        · refine Wc.condT h101 (by kernel_rfl) ?_
          obtain ⟨c86_, h102, h98⟩ := obind h98
          obtain ⟨m87_, h103, h98⟩ := obind h98
          obtain ⟨o88_, h104, h98⟩ := obind h98
          refine Wc.draw hmix [{}, {}, {}, { v := some (.vptr [.str c86_]) }, {}, {}, { r := some (.v (.str m87_.2) []), outs := [(0, .p [.sl (List.map cI.u8 m87_.1.gB), .int .i64 m87_.1.gI, .int .i64 m87_.1.gH] [])] }, { r := some (.v (.tup [.sl (List.map GFile.c o88_.1), .bool o88_.2]) []) }] [] [0, 3, 4, 5] [1000000] [] ⟨[(0, (.ptr 1000000 0, [])), (3, (.v (.sl (List.map GFile.c o88_.1)), [])), (4, (.v (.sl (List.map cS [(bs [111, 110, 101]), (bs [116, 119, 111]), (bs [122, 111, 111])])), [(0, .app 9)])), (5, (.v (.int .i64 b81_), []))], [(1000000, .cells [.sl (List.map cI.u8 m87_.1.gB), .int .i64 m87_.1.gI, .int .i64 m87_.1.gH] [])], []⟩ _ (by kernel_rfl) (fun X => by kernel_rfl) (.cons (at_obl (c := cS) rfl cS_len h102) (.cons (len_ok 1 [.str c86_]) (.cons (cspec_l16Text h103) (.cons (FnO.un (cspec_Stored h104)) .nil)))) ?_
          refine Wc.region [] [] [0, 3, 4, 5] [1000000] [] ⟨[(0, (.ptr 1000000 0, [])), (3, (.v (.sl (List.map GFile.c o88_.1)), [])), (4, (.v (.sl (List.map cS [(bs [111, 110, 101]), (bs [116, 119, 111]), (bs [122, 111, 111])])), [(0, .app 9)])), (5, (.v (.int .i64 (wr.i64 (b81_ + 1))), []))], [(1000000, .cells [.sl (List.map cI.u8 m87_.1.gB), .int .i64 m87_.1.gI, .int .i64 m87_.1.gH] [])], []⟩ _ (by kernel_rfl) .nil ?_
          exact ⟨_, Nat.lt_succ_self _, _, _, _, rfl, h98⟩
        · refine Wc.condF h101 (by kernel_rfl) ?_
          refine Wc.fix (st' := ⟨[(0, (.ptr 1000000 0, [])), (3, (.v (.sl (List.map GFile.c e80_)), [])), (4, (.v (.sl (List.map cS [(bs [111, 110, 101]), (bs [116, 119, 111]), (bs [122, 111, 111])])), [(0, .app 9)])), (5, (.v (.int .i64 b81_), []))], [(1000000, .cells [.sl (List.map cI.u8 n85_.1.gB), .int .i64 n85_.1.gI, .int .i64 n85_.1.gH] [])], []⟩) [] [0, 3, 4, 5] [1000000] [] (by kernel_rfl) ?_
          refine Wc.skip ?_
          refine Wc.region [] [] [0, 3, 4, 5] [1000000] [] ⟨[(0, (.ptr 1000000 0, [])), (3, (.v (.sl (List.map GFile.c e80_)), [])), (4, (.v (.sl (List.map cS [(bs [111, 110, 101]), (bs [116, 119, 111]), (bs [122, 111, 111])])), [(0, .app 9)])), (5, (.v (.int .i64 (wr.i64 (b81_ + 1))), []))], [(1000000, .cells [.sl (List.map cI.u8 n85_.1.gB), .int .i64 n85_.1.gI, .int .i64 n85_.1.gH] [])], []⟩ _ (by kernel_rfl) .nil ?_
          exact ⟨_, Nat.lt_succ_self _, _, _, _, rfl, h98⟩
      · refine Wc.condF h99 (by kernel_rfl) ?_
        refine Wc.fix (st' := ⟨[(3, (.v (.sl (List.map GFile.c e80_)), []))], [(1000000, .cells [.sl (List.map cI.u8 g82_.gB), .int .i64 g82_.gI, .int .i64 g82_.gH] [])], []⟩) [] [3] [1000000] [] (by kernel_rfl) ?_
        refine Wc.exit ?_
        obtain rfl := Option.some.inj h98
        exact ⟨_, _, rfl, rfl⟩
  · rintro st ⟨e83_, g84_, rfl, rfl⟩
    refine Wc.seq ?_
    refine Wc.region [] [] [2] [1000000] [] ⟨[(2, (.v (.sl (List.map GFile.c e83_)), []))], [(1000000, .cells [.sl (List.map cI.u8 g84_.gB), .int .i64 g84_.gI, .int .i64 g84_.gH] [])], []⟩ _ (by kernel_rfl) .nil ?_
    refine Wc.ret ?_
    obtain rfl := Option.some.inj h
    exact ⟨.inl rfl, by kernel_rfl, by kernel_rfl⟩

def pspec_l01New_L1 (k : Nat) (a89_ : List Int) : Nat → Int → Int → Option (Out GL01Cur Int)
  | 0, _, _ => none
  | m + 1, b90_, b91_ =>
    if (decide (b91_ < (a89_.length : Int))) = true then
      if (decide (b91_ < 4000)) = true then
        (at' a89_ b91_).bind fun b93_ =>
        pspec_l01New_L1 k a89_ m (band .i64 (wr.i64 ((wr.i64 ((wr.i64 (b90_ * 131)) + (wr.i64 b93_))) + 7)) 1073741823) (wr.i64 (b91_ + 1))
      else
        some (.done b90_)
    else
      some (.done b90_)
/-- spec.l01New -/
def pspec_l01New (k : Nat) (a89_ : List Int) : Option GL01Cur :=
  (pspec_l01New_L1 k a89_ k (wr.i64 (95101 + (a89_.length : Int))) 0).bind fun out1 => match out1 with
  | .ret r => some r
  | .done b92_ =>
    some (GL01Cur.mk a89_ 0 b92_)
theorem cspec_l01New {k : Nat} {a89_ : List Int} {r : GL01Cur} (h : pspec_l01New k a89_ = some r) : FnO Try.prog 63 [.v (.sl (List.map cI.u8 a89_)) []] (.p [.sl (List.map cI.u8 r.gB), .int .i64 r.gI, .int .i64 r.gH] []) [] := by
  refine FnO.of Try.func63 (rfl : Try.f63.body = some _) (Nat.le_of_ble_eq_true (by kernel_rfl)) (Nat.le_of_ble_eq_true (by kernel_rfl)) ?_
  intro w0 X0 Fin pv0 pb gt
  unfold pspec_l01New at h
  refine Wc.seq ?_
  refine Wc.region [] [] [0] [] [] ⟨[(0, (.v (.sl (List.map cI.u8 a89_)), []))], [], []⟩ _ (by kernel_rfl) .nil ?_
  refine Wc.seq ?_
  refine Wc.region [{}, { v := some (.int .i64 (a89_.length : Int)) }] [] [0, 3] [] [] ⟨[(0, (.v (.sl (List.map cI.u8 a89_)), [])), (3, (.v (.int .i64 (wr.i64 (95101 + (a89_.length : Int)))), []))], [], []⟩ _ (by kernel_rfl) (.cons (len_obl cI.u8 a89_) .nil) ?_
  refine Wc.seq ?_
  refine Wc.seq ?_
  refine Wc.region [] [] [0, 3, 4] [] [] ⟨[(0, (.v (.sl (List.map cI.u8 a89_)), [])), (3, (.v (.int .i64 (wr.i64 (95101 + (a89_.length : Int)))), [])), (4, (.v (.int .i64 0), []))], [], []⟩ _ (by kernel_rfl) .nil ?_
  obtain ⟨out1, h105, h⟩ := obind h
  refine Wc.lastJ (fun st => ∃ (b92_ : Int), out1 = .done b92_ ∧ st = ⟨[(0, (.v (.sl (List.map cI.u8 a89_)), [])), (3, (.v (.int .i64 b92_), []))], [], []⟩) ?_ ?_
  · refine Wc.block ?_
    refine Wc.loop (fun m st => ∃ (b90_ : Int) (b91_ : Int), st = ⟨[(0, (.v (.sl (List.map cI.u8 a89_)), [])), (3, (.v (.int .i64 b90_), [])), (4, (.v (.int .i64 b91_), []))], [], []⟩ ∧ pspec_l01New_L1 k a89_ m b90_ b91_ = some out1) ?_ k ⟨_, _, rfl, h105⟩
    rintro m st ⟨b90_, b91_, rfl, h105⟩
    cases m with
    | zero => exact (onone h105).elim
    | succ m =>
      refine Wc.seq ?_
      refine Wc.seq ?_
      rcases oif h105 with ⟨h106, h105⟩ | ⟨h106, h105⟩
      · refine Wc.region [{}, {}, { v := some (.int .i64 (a89_.length : Int)) }, {}, { re := some (.bool true) }] [] [0, 3, 4, 15] [] [] ⟨[(0, (.v (.sl (List.map cI.u8 a89_)), [])), (3, (.v (.int .i64 b90_), [])), (4, (.v (.int .i64 b91_), [])), (15, (.v (.bool (decide (b91_ < 4000))), []))], [], []⟩ _ (by kernel_rfl) (.cons (len_obl cI.u8 a89_) (.cons (congrArg AV.bool h106) .nil)) ?_
        rcases oif h105 with ⟨h107, h105⟩ | ⟨h107, h105⟩
        · refine Wc.condT h107 (by kernel_rfl) ?_
          refine Wc.fix (st' := ⟨[(0, (.v (.sl (List.map cI.u8 a89_)), [])), (3, (.v (.int .i64 b90_), [])), (4, (.v (.int .i64 b91_), []))], [], []⟩) [] [0, 3, 4] [] [] (by kernel_rfl) ?_
          refine Wc.skip ?_
          refine Wc.seq ?_
          refine Wc.block ?_
          obtain ⟨b93_, h108, h105⟩ := obind h105
          refine Wc.region [{}, {}, {}, {}, { v := some (.vptr [.int .u8 b93_]) }] [] [0, 3, 4] [] [] ⟨[(0, (.v (.sl (List.map cI.u8 a89_)), [])), (3, (.v (.int .i64 (band .i64 (wr.i64 ((wr.i64 ((wr.i64 (b90_ * 131)) + (wr.i64 b93_))) + 7)) 1073741823)), [])), (4, (.v (.int .i64 b91_), []))], [], []⟩ _ (by kernel_rfl) (.cons (at_obl (c := cI.u8) rfl cI.u8_len h108) (.cons (len_ok 1 [.int .u8 b93_]) .nil)) ?_
          refine Wc.region [] [] [0, 3, 4] [] [] ⟨[(0, (.v (.sl (List.map cI.u8 a89_)), [])), (3, (.v (.int .i64 (band .i64 (wr.i64 ((wr.i64 ((wr.i64 (b90_ * 131)) + (wr.i64 b93_))) + 7)) 1073741823)), [])), (4, (.v (.int .i64 (wr.i64 (b91_ + 1))), []))], [], []⟩ _ (by kernel_rfl) .nil ?_
          exact ⟨_, Nat.lt_succ_self _, _, _, rfl, h105⟩
        · refine Wc.condF h107 (by kernel_rfl) ?_
          refine Wc.fix (st' := ⟨[(0, (.v (.sl (List.map cI.u8 a89_)), [])), (3, (.v (.int .i64 b90_), []))], [], []⟩) [] [0, 3] [] [] (by kernel_rfl) ?_
          refine Wc.exit ?_
          obtain rfl := Option.some.inj h105
          exact ⟨_, rfl, rfl⟩
      · refine Wc.region [{}, {}, { v := some (.int .i64 (a89_.length : Int)) }, {}, { re := some (.bool false) }] [] [0, 3, 4, 15] [] [] ⟨[(0, (.v (.sl (List.map cI.u8 a89_)), [])), (3, (.v (.int .i64 b90_), [])), (4, (.v (.int .i64 b91_), [])), (15, (.v (.bool false), []))], [], []⟩ _ (by kernel_rfl) (.cons (len_obl cI.u8 a89_) (.cons (congrArg AV.bool h106) .nil)) ?_
        refine Wc.condF rfl (by kernel_rfl) ?_
        refine Wc.fix (st' := ⟨[(0, (.v (.sl (List.map cI.u8 a89_)), [])), (3, (.v (.int .i64 b90_), []))], [], []⟩) [] [0, 3] [] [] (by kernel_rfl) ?_
        refine Wc.exit ?_
        obtain rfl := Option.some.inj h105
        exact ⟨_, rfl, rfl⟩
  · rintro st ⟨b92_, rfl, rfl⟩
    refine Wc.seq ?_
    refine Wc.region [] [] [2] [31] [] ⟨[(2, (.ptr 31 0, []))], [(31, .cells [.sl (List.map cI.u8 a89_), .int .i64 0, .int .i64 b92_] [])], []⟩ _ (by kernel_rfl) .nil ?_
    refine Wc.ret ?_
    obtain rfl := Option.some.inj h
    exact ⟨.inl rfl, by kernel_rfl, by kernel_rfl⟩

/-- spec.DrawFiles -/
def pspec_DrawFiles (k : Nat) (a94_ : List Int) : Option (List GFile) :=
  (pspec_l01New k a94_).bind fun g95_ =>
  (pspec_l16Files k g95_).bind fun p96_ =>
  some p96_.2
theorem cspec_DrawFiles {k : Nat} {a94_ : List Int} {r : (List GFile)} (h : pspec_DrawFiles k a94_ = some r) : FnO Try.prog 9 [.v (.sl (List.map cI.u8 a94_)) []] (.v (.sl (List.map GFile.c r)) []) [] := by
  refine FnO.of Try.func9 (rfl : Try.f9.body = some _) (Nat.le_of_ble_eq_true (by kernel_rfl)) (Nat.le_of_ble_eq_true (by kernel_rfl)) ?_
  intro w0 X0 Fin pv0 pb gt
  unfold pspec_DrawFiles at h
  refine Wc.seq ?_
  refine Wc.region [] [] [0] [] [] ⟨[(0, (.v (.sl (List.map cI.u8 a94_)), []))], [], []⟩ _ (by kernel_rfl) .nil ?_
  refine Wc.seq ?_
  obtain ⟨g95_, h109, h⟩ := obind h
  obtain ⟨p96_, h110, h⟩ := obind h
  refine Wc.region [{}, { r := some (.p [.sl (List.map cI.u8 g95_.gB), .int .i64 g95_.gI, .int .i64 g95_.gH] []) }, { r := some (.v (.sl (List.map GFile.c p96_.2)) []), outs := [(0, .p [.sl (List.map cI.u8 p96_.1.gB), .int .i64 p96_.1.gI, .int .i64 p96_.1.gH] [])] }] [] [2] [] [] ⟨[(2, (.v (.sl (List.map GFile.c p96_.2)), []))], [], []⟩ _ (by kernel_rfl) (.cons (cspec_l01New h109) (.cons (cspec_l16Files h110) .nil)) ?_
  refine Wc.ret ?_
  obtain rfl := Option.some.inj h
  exact ⟨.inl rfl, by kernel_rfl, by kernel_rfl⟩

/-- impl.within -/
def pimpl_within (k : Nat) (b97_ : Int) (b98_ : Int) (b99_ : Int) : Option Bool :=
  if (decide (b97_ ≥ b98_)) = true then
    some (decide (b97_ ≤ b99_))
  else
    some false
theorem cimpl_within {k : Nat} {b97_ : Int} {b98_ : Int} {b99_ : Int} {r : Bool} (h : pimpl_within k b97_ b98_ b99_ = some r) : FnO Try.prog 90 [.v (.int .i64 b97_) [], .v (.int .i64 b98_) [], .v (.int .i64 b99_) []] (.v (.bool r) []) [] := by
  refine FnO.of Try.func90 (rfl : Try.f90.body = some _) (Nat.le_of_ble_eq_true (by kernel_rfl)) (Nat.le_of_ble_eq_true (by kernel_rfl)) ?_
  intro w0 X0 Fin pv0 pb gt
  unfold pimpl_within at h
  refine Wc.seq ?_
  refine Wc.region [] [] [0, 1, 2] [] [] ⟨[(0, (.v (.int .i64 b97_), [])), (1, (.v (.int .i64 b98_), [])), (2, (.v (.int .i64 b99_), []))], [], []⟩ _ (by kernel_rfl) .nil ?_
  refine Wc.seq ?_
  rcases oif h with ⟨h111, h⟩ | ⟨h111, h⟩
  · refine Wc.region [{}, {}, {}, { re := some (.bool true) }] [] [6] [] [] ⟨[(6, (.v (.bool (decide (b97_ ≤ b99_))), []))], [], []⟩ _ (by kernel_rfl) (.cons (congrArg AV.bool h111) .nil) ?_
    refine Wc.ret ?_
    obtain rfl := Option.some.inj h
    exact ⟨.inl rfl, by kernel_rfl, by kernel_rfl⟩
  · refine Wc.region [{}, {}, {}, { re := some (.bool false) }] [] [6] [] [] ⟨[(6, (.v (.bool false), []))], [], []⟩ _ (by kernel_rfl) (.cons (congrArg AV.bool h111) .nil) ?_
    refine Wc.ret ?_
    obtain rfl := Option.some.inj h
    exact ⟨.inl rfl, by kernel_rfl, by kernel_rfl⟩

/-- impl.lower -/
def pimpl_lower (k : Nat) (b100_ : Int) : Option Bool :=
  if (decide (b100_ ≥ 97)) = true then
    some (decide (b100_ ≤ 122))
  else
    some false
theorem cimpl_lower {k : Nat} {b100_ : Int} {r : Bool} (h : pimpl_lower k b100_ = some r) : FnO Try.prog 126 [.v (.int .u8 b100_) []] (.v (.bool r) []) [] := by
  refine FnO.of Try.func126 (rfl : Try.f126.body = some _) (Nat.le_of_ble_eq_true (by kernel_rfl)) (Nat.le_of_ble_eq_true (by kernel_rfl)) ?_
  intro w0 X0 Fin pv0 pb gt
  unfold pimpl_lower at h
  refine Wc.seq ?_
  refine Wc.region [] [] [0] [] [] ⟨[(0, (.v (.int .u8 b100_), []))], [], []⟩ _ (by kernel_rfl) .nil ?_
  refine Wc.seq ?_
  rcases oif h with ⟨h112, h⟩ | ⟨h112, h⟩
  · refine Wc.region [{}, {}, { re := some (.bool true) }] [] [2] [] [] ⟨[(2, (.v (.bool (decide (b100_ ≤ 122))), []))], [], []⟩ _ (by kernel_rfl) (.cons (congrArg AV.bool h112) .nil) ?_
    refine Wc.ret ?_
    obtain rfl := Option.some.inj h
    exact ⟨.inl rfl, by kernel_rfl, by kernel_rfl⟩
  · refine Wc.region [{}, {}, { re := some (.bool false) }] [] [2] [] [] ⟨[(2, (.v (.bool false), []))], [], []⟩ _ (by kernel_rfl) (.cons (congrArg AV.bool h112) .nil) ?_
    refine Wc.ret ?_
    obtain rfl := Option.some.inj h
    exact ⟨.inl rfl, by kernel_rfl, by kernel_rfl⟩

def pimpl_run_on2_pimpl_lower_L1 (k : Nat) (c103_ : ByteArray) : Nat → Int → Option (Out Int Int)
  | 0, _ => none
  | m + 1, b105_ =>
    if (decide (b105_ < (c103_.size : Int))) = true then
      if 0 ≤ b105_ ∧ (b105_).toNat < c103_.size then
        (pimpl_lower k (bt c103_ b105_)).bind fun d107_ =>
        if d107_ = true then
          pimpl_run_on2_pimpl_lower_L1 k c103_ m (wr.i64 (b105_ + 1))
        else
          some (.done b105_)
      else none
    else
      some (.done b105_)
/-- impl.run -/
def pimpl_run_on2_pimpl_lower (k : Nat) (c103_ : ByteArray) (b104_ : Int) : Option Int :=
  (pimpl_run_on2_pimpl_lower_L1 k c103_ k b104_).bind fun out1 => match out1 with
  | .ret r => some r
  | .done b106_ =>
    some b106_
theorem cimpl_run_on2_pimpl_lower {k : Nat} {c103_ : ByteArray} {b104_ : Int} {r : Int} (h : pimpl_run_on2_pimpl_lower k c103_ b104_ = some r) : FnO Try.prog 125 [.v (.str c103_) [], .v (.int .i64 b104_) [], .v (.func 126 []) []] (.v (.int .i64 r) []) [] := by
  refine FnO.of Try.func125 (rfl : Try.f125.body = some _) (Nat.le_of_ble_eq_true (by kernel_rfl)) (Nat.le_of_ble_eq_true (by kernel_rfl)) ?_
  intro w0 X0 Fin pv0 pb gt
  unfold pimpl_run_on2_pimpl_lower at h
  refine Wc.seq ?_
  refine Wc.region [] [] [0, 1, 2] [] [] ⟨[(0, (.v (.str c103_), [])), (1, (.v (.int .i64 b104_), [])), (2, (.v (.func 126 []), []))], [], []⟩ _ (by kernel_rfl) .nil ?_
  obtain ⟨out1, h115, h⟩ := obind h
  refine Wc.seqJ (fun st => ∃ (b106_ : Int), out1 = .done b106_ ∧ st = ⟨[(1, (.v (.int .i64 b106_), []))], [], []⟩) ?_ ?_
  · refine Wc.block ?_
    refine Wc.loop (fun m st => ∃ (b105_ : Int), st = ⟨[(0, (.v (.str c103_), [])), (1, (.v (.int .i64 b105_), [])), (2, (.v (.func 126 []), []))], [], []⟩ ∧ pimpl_run_on2_pimpl_lower_L1 k c103_ m b105_ = some out1) ?_ k ⟨_, rfl, h115⟩
    rintro m st ⟨b105_, rfl, h115⟩
    cases m with
    | zero => exact (onone h115).elim
    | succ m =>
      refine Wc.seq ?_
      refine Wc.seq ?_
      rcases oif h115 with ⟨h116, h115⟩ | ⟨h116, h115⟩
      · obtain ⟨h117, h115⟩ := oguard h115
        obtain ⟨d107_, h118, h115⟩ := obind h115
        refine Wc.region [{}, {}, {}, {}, { re := some (.bool true) }, {}, {}, {}, {}, { r := some (.v (.bool d107_) []) }] [] [0, 1, 2, 17] [] [] ⟨[(0, (.v (.str c103_), [])), (1, (.v (.int .i64 b105_), [])), (2, (.v (.func 126 []), [])), (17, (.v (.bool d107_), []))], [], []⟩ _ (by kernel_rfl) (.cons (congrArg AV.bool h116) (.cons h117 (.cons (cimpl_lower h118) .nil))) ?_
        rcases oif h115 with ⟨h119, h115⟩ | ⟨h119, h115⟩
        · refine Wc.condT h119 (by kernel_rfl) ?_
          refine Wc.fix (st' := ⟨[(0, (.v (.str c103_), [])), (1, (.v (.int .i64 b105_), [])), (2, (.v (.func 126 []), []))], [], []⟩) [] [0, 1, 2] [] [] (by kernel_rfl) ?_
          refine Wc.skip ?_
          refine Wc.block ?_
          refine Wc.region [] [] [0, 1, 2] [] [] ⟨[(0, (.v (.str c103_), [])), (1, (.v (.int .i64 (wr.i64 (b105_ + 1))), [])), (2, (.v (.func 126 []), []))], [], []⟩ _ (by kernel_rfl) .nil ?_
          exact ⟨_, Nat.lt_succ_self _, _, rfl, h115⟩
        · refine Wc.condF h119 (by kernel_rfl) ?_
          refine Wc.fix (st' := ⟨[(1, (.v (.int .i64 b105_), []))], [], []⟩) [] [1] [] [] (by kernel_rfl) ?_
          refine Wc.exit ?_
          obtain rfl := Option.some.inj h115
          exact ⟨_, rfl, rfl⟩
      · refine Wc.region [{}, {}, {}, {}, { re := some (.bool false) }] [] [0, 1, 2, 17] [] [] ⟨[(0, (.v (.str c103_), [])), (1, (.v (.int .i64 b105_), [])), (2, (.v (.func 126 []), [])), (17, (.v (.bool false), []))], [], []⟩ _ (by kernel_rfl) (.cons (congrArg AV.bool h116) .nil) ?_
        refine Wc.condF rfl (by kernel_rfl) ?_
        refine Wc.fix (st' := ⟨[(1, (.v (.int .i64 b105_), []))], [], []⟩) [] [1] [] [] (by kernel_rfl) ?_
        refine Wc.exit ?_
        obtain rfl := Option.some.inj h115
        exact ⟨_, rfl, rfl⟩
  · rintro st ⟨b106_, rfl, rfl⟩
    refine Wc.seq ?_
    refine Wc.region [] [] [6] [] [] ⟨[(6, (.v (.int .i64 b106_), []))], [], []⟩ _ (by kernel_rfl) .nil ?_
    refine Wc.ret ?_
    obtain rfl := Option.some.inj h
    exact ⟨.inl rfl, by kernel_rfl, by kernel_rfl⟩

/-- impl.fileName -/
def pimpl_fileName (k : Nat) (c101_ : ByteArray) : Option Bool :=
  (pimpl_within k (c101_.size : Int) 1 8).bind fun d102_ =>
  if d102_ = true then
    (pimpl_run_on2_pimpl_lower k c101_ 0).bind fun b108_ =>
    some (b108_ == (c101_.size : Int))
  else
    some false
theorem cimpl_fileName {k : Nat} {c101_ : ByteArray} {r : Bool} (h : pimpl_fileName k c101_ = some r) : FnO Try.prog 67 [.v (.str c101_) []] (.v (.bool r) []) [] := by
  refine FnO.of Try.func67 (rfl : Try.f67.body = some _) (Nat.le_of_ble_eq_true (by kernel_rfl)) (Nat.le_of_ble_eq_true (by kernel_rfl)) ?_
  intro w0 X0 Fin pv0 pb gt
  unfold pimpl_fileName at h
  refine Wc.seq ?_
  refine Wc.region [] [] [0] [] [] ⟨[(0, (.v (.str c101_), []))], [], []⟩ _ (by kernel_rfl) .nil ?_
  refine Wc.seq ?_
  obtain ⟨d102_, h113, h⟩ := obind h
  rcases oif h with ⟨h114, h⟩ | ⟨h114, h⟩
  · obtain ⟨b108_, h120, h⟩ := obind h
    refine Wc.region [{}, {}, { r := some (.v (.bool d102_) []) }, { re := some (.bool true) }, {}, { r := some (.v (.int .i64 b108_) []) }] [] [2] [] [] ⟨[(2, (.v (.bool (b108_ == (c101_.size : Int))), []))], [], []⟩ _ (by kernel_rfl) (.cons (cimpl_within h113) (.cons (congrArg AV.bool h114) (.cons (cimpl_run_on2_pimpl_lower h120) .nil))) ?_
    refine Wc.ret ?_
    obtain rfl := Option.some.inj h
    exact ⟨.inl rfl, by kernel_rfl, by kernel_rfl⟩
  · refine Wc.region [{}, {}, { r := some (.v (.bool d102_) []) }, { re := some (.bool false) }] [] [2] [] [] ⟨[(2, (.v (.bool false), []))], [], []⟩ _ (by kernel_rfl) (.cons (cimpl_within h113) (.cons (congrArg AV.bool h114) .nil)) ?_
    refine Wc.ret ?_
    obtain rfl := Option.some.inj h
    exact ⟨.inl rfl, by kernel_rfl, by kernel_rfl⟩

def pimpl_FilesOk_L1 (k : Nat) (e104_ : List GFile) : Nat → Int → Option (Out Bool Unit)
  | 0, _ => none
  | m + 1, b105_ =>
    if (decide (b105_ < (e104_.length : Int))) = true then
      (at' e104_ b105_).bind fun f106_ =>
      (pimpl_fileName k f106_.gName).bind fun d107_ =>
      if (!d107_) = true then
        some (.ret false)
      else
        if (decide ((f106_.gText.size : Int) > 3000)) = true then
          some (.ret false)
        else
          if (decide (b105_ > 0)) = true then
            (at' e104_ (wr.i64 (b105_ - 1))).bind fun f108_ =>
            if (!(sLt f108_.gName f106_.gName)) = true then
              some (.ret false)
            else
              pimpl_FilesOk_L1 k e104_ m (wr.i64 (b105_ + 1))
          else
            pimpl_FilesOk_L1 k e104_ m (wr.i64 (b105_ + 1))
    else
      some (.done ())
/-- impl.FilesOk -/
def pimpl_FilesOk (k : Nat) (e104_ : List GFile) : Option Bool :=
  (pimpl_FilesOk_L1 k e104_ k 0).bind fun out1 => match out1 with
  | .ret r => some r
  | .done () =>
    some (decide ((e104_.length : Int) ≤ 6))
theorem cimpl_FilesOk {k : Nat} {e104_ : List GFile} {r : Bool} (h : pimpl_FilesOk k e104_ = some r) : FnO Try.prog 16 [.v (.sl (List.map GFile.c e104_)) []] (.v (.bool r) []) [] := by
  refine FnO.of Try.func16 (rfl : Try.f16.body = some _) (Nat.le_of_ble_eq_true (by kernel_rfl)) (Nat.le_of_ble_eq_true (by kernel_rfl)) ?_
  intro w0 X0 Fin pv0 pb gt
  unfold pimpl_FilesOk at h
  refine Wc.seq ?_
  refine Wc.region [] [] [0] [] [] ⟨[(0, (.v (.sl (List.map GFile.c e104_)), []))], [], []⟩ _ (by kernel_rfl) .nil ?_
  refine Wc.seq ?_
  refine Wc.seq ?_
  refine Wc.region [{}, { v := some (.int .i64 (e104_.length : Int)) }] [] [0, 5, 6, 7] [] [] ⟨[(0, (.v (.sl (List.map GFile.c e104_)), [])), (5, (.v (.sl (List.map GFile.c e104_)), [])), (6, (.v (.int .i64 (e104_.length : Int)), [])), (7, (.v (.int .i64 0), []))], [], []⟩ _ (by kernel_rfl) (.cons (len_obl GFile.c e104_) .nil) ?_
  obtain ⟨out1, h116, h⟩ := obind h
  refine Wc.lastJ (fun st => out1 = .done () ∧ st = ⟨[(0, (.v (.sl (List.map GFile.c e104_)), []))], [], []⟩) ?_ ?_
  · refine Wc.block ?_
    refine Wc.loop (fun m st => ∃ (b105_ : Int), st = ⟨[(0, (.v (.sl (List.map GFile.c e104_)), [])), (5, (.v (.sl (List.map GFile.c e104_)), [])), (6, (.v (.int .i64 (e104_.length : Int)), [])), (7, (.v (.int .i64 b105_), []))], [], []⟩ ∧ pimpl_FilesOk_L1 k e104_ m b105_ = some out1) ?_ k ⟨_, rfl, h116⟩
    rintro m st ⟨b105_, rfl, h116⟩
    cases m with
    | zero => exact (onone h116).elim
    | succ m =>
      refine Wc.seq ?_
      refine Wc.region [] [] [0, 5, 6, 7, 8] [] [] ⟨[(0, (.v (.sl (List.map GFile.c e104_)), [])), (5, (.v (.sl (List.map GFile.c e104_)), [])), (6, (.v (.int .i64 (e104_.length : Int)), [])), (7, (.v (.int .i64 b105_), [])), (8, (.v (.bool (decide (b105_ < (e104_.length : Int)))), []))], [], []⟩ _ (by kernel_rfl) .nil ?_
      refine Wc.seq ?_
      rcases oif h116 with ⟨h117, h116⟩ | ⟨h117, h116⟩
      · refine Wc.condT h117 (by kernel_rfl) ?_
        refine Wc.fix (st' := ⟨[(0, (.v (.sl (List.map GFile.c e104_)), [])), (5, (.v (.sl (List.map GFile.c e104_)), [])), (6, (.v (.int .i64 (e104_.length : Int)), [])), (7, (.v (.int .i64 b105_), []))], [], []⟩) [] [0, 5, 6, 7] [] [] (by kernel_rfl) ?_
        refine Wc.skip ?_
        refine Wc.seq ?_
        refine Wc.block ?_
        refine Wc.seq ?_
        obtain ⟨f106_, h118, h116⟩ := obind h116
        refine Wc.region [{}, { v := some (.vptr [.str f106_.gName, .str f106_.gText]) }] [] [0, 3, 4, 5, 6, 7] [4] [] ⟨[(0, (.v (.sl (List.map GFile.c e104_)), [])), (3, (.v (.int .i64 b105_), [])), (4, (.ptr 4 0, [])), (5, (.v (.sl (List.map GFile.c e104_)), [])), (6, (.v (.int .i64 (e104_.length : Int)), [])), (7, (.v (.int .i64 b105_), []))], [(4, .cells [.str f106_.gName, .str f106_.gText] [])], []⟩ _ (by kernel_rfl) (.cons (at_obl (c := GFile.c) (GFile.c_eq f106_) GFile.c_len h118) (.cons (len_ok 2 [.str f106_.gName, .str f106_.gText]) .nil)) ?_
        refine Wc.seq ?_
        obtain ⟨d107_, h119, h116⟩ := obind h116
        rcases oif h116 with ⟨h120, h116⟩ | ⟨h120, h116⟩
        · refine Wc.draw hmix [{}, {}, { r := some (.v (.bool d107_) []) }, {}, { re := some (.bool true) }] [] [0, 5, 6, 7, 36] [] [] ⟨[(0, (.v (.sl (List.map GFile.c e104_)), [])), (5, (.v (.sl (List.map GFile.c e104_)), [])), (6, (.v (.int .i64 (e104_.length : Int)), [])), (7, (.v (.int .i64 b105_), [])), (36, (.v (.bool true), []))], [], []⟩ _ (by kernel_rfl) (fun X => by kernel_rfl) (.cons (cimpl_fileName h119) (.cons (congrArg AV.bool h120) .nil)) ?_
          refine Wc.condT rfl (by kernel_rfl) ?_
          refine Wc.seq ?_
          refine Wc.region [] [] [2] [] [] ⟨[(2, (.v (.bool false), []))], [], []⟩ _ (by kernel_rfl) .nil ?_
          refine Wc.ret ?_
          obtain rfl := Option.some.inj h116
          obtain rfl := Option.some.inj h
          exact ⟨.inl rfl, by kernel_rfl, by kernel_rfl⟩
        · rcases oif h116 with ⟨h121, h116⟩ | ⟨h121, h116⟩
          · refine Wc.draw hmix [{}, {}, { r := some (.v (.bool d107_) []) }, {}, { re := some (.bool false) }, {}, {}, {}, {}, {}, { re := some (.bool true) }] [] [0, 5, 6, 7, 36] [] [] ⟨[(0, (.v (.sl (List.map GFile.c e104_)), [])), (5, (.v (.sl (List.map GFile.c e104_)), [])), (6, (.v (.int .i64 (e104_.length : Int)), [])), (7, (.v (.int .i64 b105_), [])), (36, (.v (.bool true), []))], [], []⟩ _ (by kernel_rfl) (fun X => by kernel_rfl) (.cons (cimpl_fileName h119) (.cons (congrArg AV.bool h120) (.cons (congrArg AV.bool h121) .nil))) ?_
            refine Wc.condT rfl (by kernel_rfl) ?_
            refine Wc.seq ?_
            refine Wc.region [] [] [2] [] [] ⟨[(2, (.v (.bool false), []))], [], []⟩ _ (by kernel_rfl) .nil ?_
            refine Wc.ret ?_
            obtain rfl := Option.some.inj h116
            obtain rfl := Option.some.inj h
            exact ⟨.inl rfl, by kernel_rfl, by kernel_rfl⟩
          · rcases oif h116 with ⟨h122, h116⟩ | ⟨h122, h116⟩
            · obtain ⟨f108_, h123, h116⟩ := obind h116
              refine Wc.draw hmix [{}, {}, { r := some (.v (.bool d107_) []) }, {}, { re := some (.bool false) }, {}, {}, {}, {}, {}, { re := some (.bool false) }, {}, {}, { re := some (.bool true) }, {}, {}, {}, { v := some (.vptr [.str f108_.gName, .str f108_.gText]) }] [] [0, 5, 6, 7, 36] [] [] ⟨[(0, (.v (.sl (List.map GFile.c e104_)), [])), (5, (.v (.sl (List.map GFile.c e104_)), [])), (6, (.v (.int .i64 (e104_.length : Int)), [])), (7, (.v (.int .i64 b105_), [])), (36, (.v (.bool (!(sLt f108_.gName f106_.gName))), []))], [], []⟩ _ (by kernel_rfl) (fun X => by kernel_rfl) (.cons (cimpl_fileName h119) (.cons (congrArg AV.bool h120) (.cons (congrArg AV.bool h121) (.cons (congrArg AV.bool h122) (.cons (at_obl (c := GFile.c) (GFile.c_eq f108_) GFile.c_len h123) (.cons (len_ok 1 [.str f108_.gName, .str f108_.gText]) .nil)))))) ?_
              rcases oif h116 with ⟨h124, h116⟩ | ⟨h124, h116⟩
              · refine Wc.condT h124 (by kernel_rfl) ?_
                refine Wc.seq ?_
                refine Wc.region [] [] [2] [] [] ⟨[(2, (.v (.bool false), []))], [], []⟩ _ (by kernel_rfl) .nil ?_
                refine Wc.ret ?_
                obtain rfl := Option.some.inj h116
                obtain rfl := Option.some.inj h
                exact ⟨.inl rfl, by kernel_rfl, by kernel_rfl⟩
              · refine Wc.condF h124 (by kernel_rfl) ?_
                refine Wc.fix (st' := ⟨[(0, (.v (.sl (List.map GFile.c e104_)), [])), (5, (.v (.sl (List.map GFile.c e104_)), [])), (6, (.v (.int .i64 (e104_.length : Int)), [])), (7, (.v (.int .i64 b105_), []))], [], []⟩) [] [0, 5, 6, 7] [] [] (by kernel_rfl) ?_
                refine Wc.skip ?_
                refine Wc.region [] [] [0, 5, 6, 7] [] [] ⟨[(0, (.v (.sl (List.map GFile.c e104_)), [])), (5, (.v (.sl (List.map GFile.c e104_)), [])), (6, (.v (.int .i64 (e104_.length : Int)), [])), (7, (.v (.int .i64 (wr.i64 (b105_ + 1))), []))], [], []⟩ _ (by kernel_rfl) .nil ?_
                exact ⟨_, Nat.lt_succ_self _, _, rfl, h116⟩
            · refine Wc.draw hmix [{}, {}, { r := some (.v (.bool d107_) []) }, {}, { re := some (.bool false) }, {}, {}, {}, {}, {}, { re := some (.bool false) }, {}, {}, { re := some (.bool false) }] [] [0, 5, 6, 7, 36] [] [] ⟨[(0, (.v (.sl (List.map GFile.c e104_)), [])), (5, (.v (.sl (List.map GFile.c e104_)), [])), (6, (.v (.int .i64 (e104_.length : Int)), [])), (7, (.v (.int .i64 b105_), [])), (36, (.v (.bool false), []))], [], []⟩ _ (by kernel_rfl) (fun X => by kernel_rfl) (.cons (cimpl_fileName h119) (.cons (congrArg AV.bool h120) (.cons (congrArg AV.bool h121) (.cons (congrArg AV.bool h122) .nil)))) ?_
              refine Wc.condF rfl (by kernel_rfl) ?_
              refine Wc.fix (st' := ⟨[(0, (.v (.sl (List.map GFile.c e104_)), [])), (5, (.v (.sl (List.map GFile.c e104_)), [])), (6, (.v (.int .i64 (e104_.length : Int)), [])), (7, (.v (.int .i64 b105_), []))], [], []⟩) [] [0, 5, 6, 7] [] [] (by kernel_rfl) ?_
              refine Wc.skip ?_
              refine Wc.region [] [] [0, 5, 6, 7] [] [] ⟨[(0, (.v (.sl (List.map GFile.c e104_)), [])), (5, (.v (.sl (List.map GFile.c e104_)), [])), (6, (.v (.int .i64 (e104_.length : Int)), [])), (7, (.v (.int .i64 (wr.i64 (b105_ + 1))), []))], [], []⟩ _ (by kernel_rfl) .nil ?_
              exact ⟨_, Nat.lt_succ_self _, _, rfl, h116⟩
      · refine Wc.condF h117 (by kernel_rfl) ?_
        refine Wc.fix (st' := ⟨[(0, (.v (.sl (List.map GFile.c e104_)), []))], [], []⟩) [] [0] [] [] (by kernel_rfl) ?_
        refine Wc.exit ?_
        obtain rfl := Option.some.inj h116
        exact ⟨rfl, rfl⟩
  · rintro st ⟨rfl, rfl⟩
    refine Wc.seq ?_
    refine Wc.region [{}, { v := some (.int .i64 (e104_.length : Int)) }] [] [2] [] [] ⟨[(2, (.v (.bool (decide ((e104_.length : Int) ≤ 6))), []))], [], []⟩ _ (by kernel_rfl) (.cons (len_obl GFile.c e104_) .nil) ?_
    refine Wc.ret ?_
    obtain rfl := Option.some.inj h
    exact ⟨.inl rfl, by kernel_rfl, by kernel_rfl⟩

def pslices_Insert___impl_File_impl_File_ (k : Nat) (l : List GFile) (i : Int) (v : List GFile) : Option (List GFile) :=
  if (0 ≤ i ∧ i.toNat ≤ l.length ∧ l.length + 1 ≤ 1073741824) ∧ v.length = 1 then some (l.take i.toNat ++ (v ++ l.drop i.toNat)) else none
theorem cslices_Insert___impl_File_impl_File_ {k : Nat} {l : List GFile} {i : Int} {v r : List GFile} (h : pslices_Insert___impl_File_impl_File_ k l i v = some r) : FnO Try.prog 64 [.v .slx [(0, .ex 31 false (List.map GFile.c l))], .v (.int .i64 i) [], .v .slx [(0, .ex 31 false (List.map GFile.c v))]] (.v (.slx) [(0, .ex 31 false (List.map GFile.c r))]) [] := by
  obtain ⟨⟨⟨h0, h1, h2⟩, h3⟩, h⟩ := oguard h
  obtain rfl := Option.some.inj h
  match v, h3 with
  | [x], _ =>
    obtain ⟨n, rfl⟩ := Int.eq_ofNat_of_zero_le h0
    have q := insert_O (dp := false) ins_roads (by kernel_rfl) zF_cells (by decide) (rows := l.map GFile.c) (x := x.c) (i := n) (by simpa using h1) (by simpa using h2) (fun c hc => by
      obtain ⟨y, _, rfl⟩ := List.mem_map.1 hc
      rfl) rfl
    have e : insF (l.map GFile.c) n x.c = List.map GFile.c (l.take (n : Int).toNat ++ ([x] ++ l.drop (n : Int).toNat)) := by unfold insF; simp
    rw [e] at q
    exact q

def pimpl_Stored_L1 (k : Nat) (e122_ : List GFile) (c123_ : ByteArray) : Nat → Int → Option (Out ((List GFile) × Bool) Int)
  | 0, _ => none
  | m + 1, b126_ =>
    if (decide (b126_ < (e122_.length : Int))) = true then
      (at' e122_ b126_).bind fun f128_ =>
      if (sLt f128_.gName c123_) = true then
        pimpl_Stored_L1 k e122_ c123_ m (wr.i64 (b126_ + 1))
      else
        some (.done b126_)
    else
      some (.done b126_)
def pimpl_Stored_J2 (k : Nat) (e122_ : List GFile) (e129_ : List GFile) : Option ((List GFile) × Bool) :=
  (pimpl_FilesOk k e129_).bind fun d130_ =>
  if (!d130_) = true then
    if ([] : List GFile).length + e122_.length ≤ 1073741824 then
      some (e122_, false)
    else none
  else
    some (e129_, true)
def pimpl_Stored_J3 (k : Nat) (e122_ : List GFile) (b127_ : Int) (c124_ : ByteArray) (c123_ : ByteArray) (d131_ : Bool) : Option ((List GFile) × Bool) :=
  if d131_ = true then
    (at' e122_ b127_).bind fun f132_ =>
    pimpl_Stored_J2 k e122_ (e122_.set ((b127_).toNat) (GFile.mk f132_.gName c124_))
  else
    (pslices_Insert___impl_File_impl_File_ k e122_ b127_ [GFile.mk c123_ c124_]).bind fun q133_ =>
    pimpl_Stored_J2 k e122_ q133_
/-- impl.Stored -/
def pimpl_Stored (k : Nat) (e122_ : List GFile) (c123_ : ByteArray) (c124_ : ByteArray) : Option ((List GFile) × Bool) :=
  if ([] : List GFile).length + e122_.length ≤ 1073741824 then
    (pimpl_FilesOk k e122_).bind fun d125_ =>
    if (!d125_) = true then
      some (e122_, false)
    else
      (pimpl_Stored_L1 k e122_ c123_ k 0).bind fun out1 => match out1 with
      | .ret r => some r
      | .done b127_ =>
        if (decide (b127_ < (e122_.length : Int))) = true then
          (at' e122_ b127_).bind fun f134_ =>
          pimpl_Stored_J3 k e122_ b127_ c124_ c123_ (sEq f134_.gName c123_)
        else
          pimpl_Stored_J3 k e122_ b127_ c124_ c123_ false
  else none
set_option maxHeartbeats 4000000 in
theorem cimpl_Stored {k : Nat} {e122_ : List GFile} {c123_ : ByteArray} {c124_ : ByteArray} {r : (List GFile) × Bool} (h : pimpl_Stored k e122_ c123_ c124_ = some r) : FnO Try.prog 10 [.v (.sl (List.map GFile.c e122_)) [], .v (.str c123_) [], .v (.str c124_) []] (.v (.tup [.sl (List.map GFile.c r.1), .bool r.2]) []) [] := by
  refine FnO.of Try.func10 (rfl : Try.f10.body = some _) (Nat.le_of_ble_eq_true (by kernel_rfl)) (Nat.le_of_ble_eq_true (by kernel_rfl)) ?_
  intro w0 X0 Fin pv0 pb gt
  unfold pimpl_Stored at h
  refine Wc.seq ?_
  refine Wc.region [] [] [0, 1, 2] [] [] ⟨[(0, (.v (.sl (List.map GFile.c e122_)), [])), (1, (.v (.str c123_), [])), (2, (.v (.str c124_), []))], [], []⟩ _ (by kernel_rfl) .nil ?_
  refine Wc.seq ?_
  obtain ⟨h140, h⟩ := oguard h
  refine Wc.region [{}, { c := some (List.map GFile.c e122_), md := 1 }, { tk := [11] }] [] [0, 1, 2, 8] [] [] ⟨[(0, (.v (.sl (List.map GFile.c e122_)), [])), (1, (.v (.str c123_), [])), (2, (.v (.str c124_), [])), (8, (.v (.slx), [(0, .ex 31 false (List.map GFile.c e122_))]))], [], []⟩ _ (by kernel_rfl) (.cons (app_re0 GFile.c e122_) (.cons (app_leaf (c := GFile.c) (ys := e122_) GFile.c_leaf) (.cons (app_obl2 (c := GFile.c) (xs := []) (ys := e122_) GFile.c_len h140) .nil))) ?_
  refine Wc.seq ?_
  refine Wc.seq ?_
  obtain ⟨d125_, h141, h⟩ := obind h
  refine Wc.region [{}, { r := some (.v (.bool d125_) []) }] [] [0, 1, 2, 8, 14] [] [] ⟨[(0, (.v (.sl (List.map GFile.c e122_)), [])), (1, (.v (.str c123_), [])), (2, (.v (.str c124_), [])), (8, (.v (.slx), [(0, .ex 31 false (List.map GFile.c e122_))])), (14, (.v (.bool (!d125_)), []))], [], []⟩ _ (by kernel_rfl) (.cons (cimpl_FilesOk h141) .nil) ?_
  rcases oif h with ⟨h142, h⟩ | ⟨h142, h⟩
  · refine Wc.condT h142 (by kernel_rfl) ?_
    refine Wc.seq ?_
    refine Wc.region [{ tk := [8] }, { tk := [15] }] [] [6, 7] [] [] ⟨[(6, (.v (.slx), [(0, .ex 31 false (List.map GFile.c e122_))])), (7, (.v (.bool false), []))], [], []⟩ _ (by kernel_rfl) .nil ?_
    refine Wc.fix (st' := ⟨[(6, (.v (.sl (List.map GFile.c e122_)), [])), (7, (.v (.bool false), []))], [], []⟩) [.sh (.t 6 0)] [6, 7] [] [] (by kernel_rfl) ?_
    refine Wc.ret ?_
    obtain rfl := Option.some.inj h
    exact ⟨.inl rfl, by kernel_rfl, by kernel_rfl⟩
  · refine Wc.condF h142 (by kernel_rfl) ?_
    refine Wc.fix (st' := ⟨[(0, (.v (.sl (List.map GFile.c e122_)), [])), (1, (.v (.str c123_), [])), (2, (.v (.str c124_), [])), (8, (.v (.slx), [(0, .ex 31 false (List.map GFile.c e122_))]))], [], []⟩) [] [0, 1, 2, 8] [] [] (by kernel_rfl) ?_
    refine Wc.skip ?_
    refine Wc.seq ?_
    refine Wc.region [] [] [0, 1, 2, 8, 9] [] [] ⟨[(0, (.v (.sl (List.map GFile.c e122_)), [])), (1, (.v (.str c123_), [])), (2, (.v (.str c124_), [])), (8, (.v (.slx), [(0, .ex 31 false (List.map GFile.c e122_))])), (9, (.v (.int .i64 0), []))], [], []⟩ _ (by kernel_rfl) .nil ?_
    obtain ⟨out1, h143, h⟩ := obind h
    refine Wc.seqJ (fun st => ∃ (b127_ : Int), out1 = .done b127_ ∧ st = ⟨[(0, (.v (.sl (List.map GFile.c e122_)), [])), (1, (.v (.str c123_), [])), (2, (.v (.str c124_), [])), (8, (.v (.slx), [(0, .ex 31 false (List.map GFile.c e122_))])), (9, (.v (.int .i64 b127_), []))], [], []⟩) ?_ ?_
    · refine Wc.block ?_
      refine Wc.loop (fun m st => ∃ (b126_ : Int), st = ⟨[(0, (.v (.sl (List.map GFile.c e122_)), [])), (1, (.v (.str c123_), [])), (2, (.v (.str c124_), [])), (8, (.v (.slx), [(0, .ex 31 false (List.map GFile.c e122_))])), (9, (.v (.int .i64 b126_), []))], [], []⟩ ∧ pimpl_Stored_L1 k e122_ c123_ m b126_ = some out1) ?_ k ⟨_, rfl, h143⟩
      rintro m st ⟨b126_, rfl, h143⟩
      cases m with
      | zero => exact (onone h143).elim
      | succ m =>
        refine Wc.seq ?_
        refine Wc.seq ?_
        rcases oif h143 with ⟨h144, h143⟩ | ⟨h144, h143⟩
        · obtain ⟨f128_, h145, h143⟩ := obind h143
          refine Wc.region [{}, {}, { v := some (.int .i64 (e122_.length : Int)) }, {}, { re := some (.bool true) }, {}, {}, {}, {}, { v := some (.str f128_.gName) }] [] [0, 1, 2, 8, 9, 28] [] [] ⟨[(0, (.v (.sl (List.map GFile.c e122_)), [])), (1, (.v (.str c123_), [])), (2, (.v (.str c124_), [])), (8, (.v (.slx), [(0, .ex 31 false (List.map GFile.c e122_))])), (9, (.v (.int .i64 b126_), [])), (28, (.v (.bool (sLt f128_.gName c123_)), []))], [], []⟩ _ (by kernel_rfl) (.cons (len_obl GFile.c e122_) (.cons (congrArg AV.bool h144) (.cons (ix_obl (c := GFile.c) GFile.c_len h145) (.cons (el_obl (sz := 2) (off := 0) (s := 1) (ag := false) (v := .str f128_.gName) (c := GFile.c) (GFile.c_eq f128_) (at'_spec h145).2 rfl (Nat.le_of_ble_eq_true rfl) rfl) .nil)))) ?_
          rcases oif h143 with ⟨h146, h143⟩ | ⟨h146, h143⟩
          · refine Wc.condT h146 (by kernel_rfl) ?_
            refine Wc.fix (st' := ⟨[(0, (.v (.sl (List.map GFile.c e122_)), [])), (1, (.v (.str c123_), [])), (2, (.v (.str c124_), [])), (8, (.v (.slx), [(0, .ex 31 false (List.map GFile.c e122_))])), (9, (.v (.int .i64 b126_), []))], [], []⟩) [] [0, 1, 2, 8, 9] [] [] (by kernel_rfl) ?_
            refine Wc.skip ?_
            refine Wc.block ?_
            refine Wc.region [] [] [0, 1, 2, 8, 9] [] [] ⟨[(0, (.v (.sl (List.map GFile.c e122_)), [])), (1, (.v (.str c123_), [])), (2, (.v (.str c124_), [])), (8, (.v (.slx), [(0, .ex 31 false (List.map GFile.c e122_))])), (9, (.v (.int .i64 (wr.i64 (b126_ + 1))), []))], [], []⟩ _ (by kernel_rfl) .nil ?_
            exact ⟨_, Nat.lt_succ_self _, _, rfl, h143⟩
          · refine Wc.condF h146 (by kernel_rfl) ?_
            refine Wc.fix (st' := ⟨[(0, (.v (.sl (List.map GFile.c e122_)), [])), (1, (.v (.str c123_), [])), (2, (.v (.str c124_), [])), (8, (.v (.slx), [(0, .ex 31 false (List.map GFile.c e122_))])), (9, (.v (.int .i64 b126_), []))], [], []⟩) [] [0, 1, 2, 8, 9] [] [] (by kernel_rfl) ?_
            refine Wc.exit ?_
            obtain rfl := Option.some.inj h143
            exact ⟨_, rfl, rfl⟩
        · refine Wc.region [{}, {}, { v := some (.int .i64 (e122_.length : Int)) }, {}, { re := some (.bool false) }] [] [0, 1, 2, 8, 9, 28] [] [] ⟨[(0, (.v (.sl (List.map GFile.c e122_)), [])), (1, (.v (.str c123_), [])), (2, (.v (.str c124_), [])), (8, (.v (.slx), [(0, .ex 31 false (List.map GFile.c e122_))])), (9, (.v (.int .i64 b126_), [])), (28, (.v (.bool false), []))], [], []⟩ _ (by kernel_rfl) (.cons (len_obl GFile.c e122_) (.cons (congrArg AV.bool h144) .nil)) ?_
          refine Wc.condF rfl (by kernel_rfl) ?_
          refine Wc.fix (st' := ⟨[(0, (.v (.sl (List.map GFile.c e122_)), [])), (1, (.v (.str c123_), [])), (2, (.v (.str c124_), [])), (8, (.v (.slx), [(0, .ex 31 false (List.map GFile.c e122_))])), (9, (.v (.int .i64 b126_), []))], [], []⟩) [] [0, 1, 2, 8, 9] [] [] (by kernel_rfl) ?_
          refine Wc.exit ?_
          obtain rfl := Option.some.inj h143
          exact ⟨_, rfl, rfl⟩
    · rintro st ⟨b127_, rfl, rfl⟩
      refine Wc.seqJ (fun st => ∃ (e129_ : List GFile), st = ⟨[(0, (.v (.sl (List.map GFile.c e122_)), [])), (8, (.v (.slx), [(0, .ex 31 false (List.map GFile.c e129_))]))], [], []⟩ ∧ pimpl_Stored_J2 k e122_ e129_ = some r) ?_ ?_
      · refine Wc.seqJ (fun st => ∃ (d131_ : Bool), st = ⟨[(0, (.v (.sl (List.map GFile.c e122_)), [])), (1, (.v (.str c123_), [])), (2, (.v (.str c124_), [])), (8, (.v (.slx), [(0, .ex 31 false (List.map GFile.c e122_))])), (9, (.v (.int .i64 b127_), [])), (43, (.v (.bool d131_), []))], [], []⟩ ∧ pimpl_Stored_J3 k e122_ b127_ c124_ c123_ d131_ = some r) ?_ ?_
        · rcases oif h with ⟨h153, h⟩ | ⟨h153, h⟩
          · obtain ⟨f134_, h154, h⟩ := obind h
            refine Wc.region [{}, {}, { v := some (.int .i64 (e122_.length : Int)) }, {}, { re := some (.bool true) }, {}, {}, {}, {}, { v := some (.str f134_.gName) }] [] [0, 1, 2, 8, 9, 43] [] [] ⟨[(0, (.v (.sl (List.map GFile.c e122_)), [])), (1, (.v (.str c123_), [])), (2, (.v (.str c124_), [])), (8, (.v (.slx), [(0, .ex 31 false (List.map GFile.c e122_))])), (9, (.v (.int .i64 b127_), [])), (43, (.v (.bool (sEq f134_.gName c123_)), []))], [], []⟩ _ (by kernel_rfl) (.cons (len_obl GFile.c e122_) (.cons (congrArg AV.bool h153) (.cons (ix_obl (c := GFile.c) GFile.c_len h154) (.cons (el_obl (sz := 2) (off := 0) (s := 1) (ag := false) (v := .str f134_.gName) (c := GFile.c) (GFile.c_eq f134_) (at'_spec h154).2 rfl (Nat.le_of_ble_eq_true rfl) rfl) .nil)))) ?_
            exact ⟨_, rfl, h⟩
          · refine Wc.region [{}, {}, { v := some (.int .i64 (e122_.length : Int)) }, {}, { re := some (.bool false) }] [] [0, 1, 2, 8, 9, 43] [] [] ⟨[(0, (.v (.sl (List.map GFile.c e122_)), [])), (1, (.v (.str c123_), [])), (2, (.v (.str c124_), [])), (8, (.v (.slx), [(0, .ex 31 false (List.map GFile.c e122_))])), (9, (.v (.int .i64 b127_), [])), (43, (.v (.bool false), []))], [], []⟩ _ (by kernel_rfl) (.cons (len_obl GFile.c e122_) (.cons (congrArg AV.bool h153) .nil)) ?_
            exact ⟨_, rfl, h⟩
        · rintro st ⟨d131_, rfl, h⟩
          rcases oif h with ⟨h150, h⟩ | ⟨h150, h⟩
          · refine Wc.condT h150 (by kernel_rfl) ?_
            obtain ⟨f132_, h151, h⟩ := obind h
            refine Wc.region [{}, {}, {}, {}, {}, { c := some (List.map GFile.c (e122_.set ((b127_).toNat) (GFile.mk f132_.gName c124_))) }] [] [0, 8] [] [] ⟨[(0, (.v (.sl (List.map GFile.c e122_)), [])), (8, (.v (.slx), [(0, .ex 31 false (List.map GFile.c (e122_.set ((b127_).toNat) (GFile.mk f132_.gName c124_))))]))], [], []⟩ _ (by kernel_rfl) (.cons (ix_obl (c := GFile.c) GFile.c_len h151) (.cons (mod_obl (off := 1) (new := [.str c124_]) (c := GFile.c) (GFile.c_eq f132_) (GFile.c_eq (GFile.mk f132_.gName c124_)) (at'_spec h151).2 rfl) (.cons (st_obl (sz := 2) (off := 1) (s := 1) (c := GFile.c) (GFile.c_eq f132_) (at'_spec h151).2 rfl (Nat.le_of_ble_eq_true rfl)) .nil))) ?_
            exact ⟨_, rfl, h⟩
          · refine Wc.condF h150 (by kernel_rfl) ?_
            obtain ⟨q133_, h152, h⟩ := obind h
            refine Wc.region [{ tk := [8] }, {}, {}, {}, {}, { c := some (List.map GFile.c [GFile.mk c123_ c124_]), md := 1 }, { tk := [49, 54], r := some (.v (.slx) [(0, .ex 31 false (List.map GFile.c q133_))]) }, { tk := [55] }] [] [0, 8] [] [] ⟨[(0, (.v (.sl (List.map GFile.c e122_)), [])), (8, (.v (.slx), [(0, .ex 31 false (List.map GFile.c q133_))]))], [], []⟩ _ (by kernel_rfl) (.cons (cl_cons (c := GFile.c) (x := GFile.mk c123_ c124_) (GFile.c_eq (GFile.mk c123_ c124_)) (cl_nil GFile.c)) (.cons (cslices_Insert___impl_File_impl_File_ h152) .nil)) ?_
            exact ⟨_, rfl, h⟩
      · rintro st ⟨e129_, rfl, h⟩
        refine Wc.seq ?_
        refine Wc.seq ?_
        obtain ⟨d130_, h147, h⟩ := obind h
        refine Wc.region [{}, { r := some (.v (.bool d130_) []) }] [] [0, 8, 58] [] [] ⟨[(0, (.v (.sl (List.map GFile.c e122_)), [])), (8, (.v (.slx), [(0, .ex 31 false (List.map GFile.c e129_))])), (58, (.v (.bool (!d130_)), []))], [], []⟩ _ (by kernel_rfl) (.cons (cimpl_FilesOk h147) .nil) ?_
        rcases oif h with ⟨h148, h⟩ | ⟨h148, h⟩
        · refine Wc.condT h148 (by kernel_rfl) ?_
          refine Wc.seq ?_
          obtain ⟨h149, h⟩ := oguard h
          refine Wc.region [{}, { c := some (List.map GFile.c e122_) }, { tk := [60] }] [] [6, 7] [] [] ⟨[(6, (.v (.sl (List.map GFile.c e122_)), [(0, .app 31)])), (7, (.v (.bool false), []))], [], []⟩ _ (by kernel_rfl) (.cons (app_re0 GFile.c e122_) (.cons (app_leaf (c := GFile.c) (ys := e122_) GFile.c_leaf) (.cons (app_obl2 (c := GFile.c) (xs := []) (ys := e122_) GFile.c_len h149) .nil))) ?_
          refine Wc.fix (st' := ⟨[(6, (.v (.sl (List.map GFile.c e122_)), [])), (7, (.v (.bool false), []))], [], []⟩) [.un (.t 6 0)] [6, 7] [] [] (by kernel_rfl) ?_
          refine Wc.ret ?_
          obtain rfl := Option.some.inj h
          exact ⟨.inl rfl, by kernel_rfl, by kernel_rfl⟩
        · refine Wc.condF h148 (by kernel_rfl) ?_
          refine Wc.fix (st' := ⟨[(8, (.v (.slx), [(0, .ex 31 false (List.map GFile.c e129_))]))], [], []⟩) [] [8] [] [] (by kernel_rfl) ?_
          refine Wc.skip ?_
          refine Wc.seq ?_
          refine Wc.region [{ tk := [8] }, { tk := [61] }] [] [6, 7] [] [] ⟨[(6, (.v (.slx), [(0, .ex 31 false (List.map GFile.c e129_))])), (7, (.v (.bool true), []))], [], []⟩ _ (by kernel_rfl) .nil ?_
          refine Wc.fix (st' := ⟨[(6, (.v (.sl (List.map GFile.c e129_)), [])), (7, (.v (.bool true), []))], [], []⟩) [.sh (.t 6 0)] [6, 7] [] [] (by kernel_rfl) ?_
          refine Wc.ret ?_
          obtain rfl := Option.some.inj h
          exact ⟨.inl rfl, by kernel_rfl, by kernel_rfl⟩

def pimpl_FileAt_L1 (k : Nat) (e135_ : List GFile) (c136_ : ByteArray) : Nat → Int → Option (Out (ByteArray × Bool) Unit)
  | 0, _ => none
  | m + 1, b137_ =>
    if (decide (b137_ < (e135_.length : Int))) = true then
      (at' e135_ b137_).bind fun f138_ =>
      if (sEq f138_.gName c136_) = true then
        some (.ret (f138_.gText, true))
      else
        pimpl_FileAt_L1 k e135_ c136_ m (wr.i64 (b137_ + 1))
    else
      some (.done ())
/-- impl.FileAt -/
def pimpl_FileAt (k : Nat) (e135_ : List GFile) (c136_ : ByteArray) : Option (ByteArray × Bool) :=
  (pimpl_FileAt_L1 k e135_ c136_ k 0).bind fun out1 => match out1 with
  | .ret r => some r
  | .done () =>
    some ((bs []), false)
theorem cimpl_FileAt {k : Nat} {e135_ : List GFile} {c136_ : ByteArray} {r : ByteArray × Bool} (h : pimpl_FileAt k e135_ c136_ = some r) : FnO Try.prog 11 [.v (.sl (List.map GFile.c e135_)) [], .v (.str c136_) []] (.v (.tup [.str r.1, .bool r.2]) []) [] := by
  refine FnO.of Try.func11 (rfl : Try.f11.body = some _) (Nat.le_of_ble_eq_true (by kernel_rfl)) (Nat.le_of_ble_eq_true (by kernel_rfl)) ?_
  intro w0 X0 Fin pv0 pb gt
  unfold pimpl_FileAt at h
  refine Wc.seq ?_
  refine Wc.region [] [] [0, 1] [] [] ⟨[(0, (.v (.sl (List.map GFile.c e135_)), [])), (1, (.v (.str c136_), []))], [], []⟩ _ (by kernel_rfl) .nil ?_
  refine Wc.seq ?_
  refine Wc.seq ?_
  refine Wc.region [{}, { v := some (.int .i64 (e135_.length : Int)) }] [] [1, 8, 9, 10] [] [] ⟨[(1, (.v (.str c136_), [])), (8, (.v (.sl (List.map GFile.c e135_)), [])), (9, (.v (.int .i64 (e135_.length : Int)), [])), (10, (.v (.int .i64 0), []))], [], []⟩ _ (by kernel_rfl) (.cons (len_obl GFile.c e135_) .nil) ?_
  obtain ⟨out1, h155, h⟩ := obind h
  refine Wc.lastJ (fun st => out1 = .done () ∧ st = ⟨[], [], []⟩) ?_ ?_
  · refine Wc.block ?_
    refine Wc.loop (fun m st => ∃ (b137_ : Int), st = ⟨[(1, (.v (.str c136_), [])), (8, (.v (.sl (List.map GFile.c e135_)), [])), (9, (.v (.int .i64 (e135_.length : Int)), [])), (10, (.v (.int .i64 b137_), []))], [], []⟩ ∧ pimpl_FileAt_L1 k e135_ c136_ m b137_ = some out1) ?_ k ⟨_, rfl, h155⟩
    rintro m st ⟨b137_, rfl, h155⟩
    cases m with
    | zero => exact (onone h155).elim
    | succ m =>
      refine Wc.seq ?_
      refine Wc.region [] [] [1, 8, 9, 10, 11] [] [] ⟨[(1, (.v (.str c136_), [])), (8, (.v (.sl (List.map GFile.c e135_)), [])), (9, (.v (.int .i64 (e135_.length : Int)), [])), (10, (.v (.int .i64 b137_), [])), (11, (.v (.bool (decide (b137_ < (e135_.length : Int)))), []))], [], []⟩ _ (by kernel_rfl) .nil ?_
      refine Wc.seq ?_
      rcases oif h155 with ⟨h156, h155⟩ | ⟨h156, h155⟩
      · refine Wc.condT h156 (by kernel_rfl) ?_
        refine Wc.fix (st' := ⟨[(1, (.v (.str c136_), [])), (8, (.v (.sl (List.map GFile.c e135_)), [])), (9, (.v (.int .i64 (e135_.length : Int)), [])), (10, (.v (.int .i64 b137_), []))], [], []⟩) [] [1, 8, 9, 10] [] [] (by kernel_rfl) ?_
        refine Wc.skip ?_
        refine Wc.seq ?_
        refine Wc.block ?_
        refine Wc.seq ?_
        obtain ⟨f138_, h157, h155⟩ := obind h155
        refine Wc.region [{ v := some (.vptr [.str f138_.gName, .str f138_.gText]) }] [] [1, 7, 8, 9, 10] [7] [] ⟨[(1, (.v (.str c136_), [])), (7, (.ptr 7 0, [])), (8, (.v (.sl (List.map GFile.c e135_)), [])), (9, (.v (.int .i64 (e135_.length : Int)), [])), (10, (.v (.int .i64 b137_), []))], [(7, .cells [.str f138_.gName, .str f138_.gText] [])], []⟩ _ (by kernel_rfl) (.cons (at_obl (c := GFile.c) (GFile.c_eq f138_) GFile.c_len h157) (.cons (len_ok 2 [.str f138_.gName, .str f138_.gText]) .nil)) ?_
        refine Wc.seq ?_
        refine Wc.region [] [] [1, 7, 8, 9, 10, 17] [7] [] ⟨[(1, (.v (.str c136_), [])), (7, (.ptr 7 0, [])), (8, (.v (.sl (List.map GFile.c e135_)), [])), (9, (.v (.int .i64 (e135_.length : Int)), [])), (10, (.v (.int .i64 b137_), [])), (17, (.v (.bool (sEq f138_.gName c136_)), []))], [(7, .cells [.str f138_.gName, .str f138_.gText] [])], []⟩ _ (by kernel_rfl) .nil ?_
        rcases oif h155 with ⟨h158, h155⟩ | ⟨h158, h155⟩
        · refine Wc.condT h158 (by kernel_rfl) ?_
          refine Wc.seq ?_
          refine Wc.region [] [] [4, 5] [] [] ⟨[(4, (.v (.str f138_.gText), [])), (5, (.v (.bool true), []))], [], []⟩ _ (by kernel_rfl) .nil ?_
          refine Wc.ret ?_
          obtain rfl := Option.some.inj h155
          obtain rfl := Option.some.inj h
          exact ⟨.inl rfl, by kernel_rfl, by kernel_rfl⟩
        · refine Wc.condF h158 (by kernel_rfl) ?_
          refine Wc.fix (st' := ⟨[(1, (.v (.str c136_), [])), (8, (.v (.sl (List.map GFile.c e135_)), [])), (9, (.v (.int .i64 (e135_.length : Int)), [])), (10, (.v (.int .i64 b137_), []))], [], []⟩) [] [1, 8, 9, 10] [] [] (by kernel_rfl) ?_
          refine Wc.skip ?_
          refine Wc.region [] [] [1, 8, 9, 10] [] [] ⟨[(1, (.v (.str c136_), [])), (8, (.v (.sl (List.map GFile.c e135_)), [])), (9, (.v (.int .i64 (e135_.length : Int)), [])), (10, (.v (.int .i64 (wr.i64 (b137_ + 1))), []))], [], []⟩ _ (by kernel_rfl) .nil ?_
          exact ⟨_, Nat.lt_succ_self _, _, rfl, h155⟩
      · refine Wc.condF h156 (by kernel_rfl) ?_
        refine Wc.fix (st' := ⟨[], [], []⟩) [] [] [] [] (by kernel_rfl) ?_
        refine Wc.exit ?_
        obtain rfl := Option.some.inj h155
        exact ⟨rfl, rfl⟩
  · rintro st ⟨rfl, rfl⟩
    refine Wc.seq ?_
    refine Wc.region [] [] [4, 5] [] [] ⟨[(4, (.v (.str (bs [])), [])), (5, (.v (.bool false), []))], [], []⟩ _ (by kernel_rfl) .nil ?_
    refine Wc.ret ?_
    obtain rfl := Option.some.inj h
    exact ⟨.inl rfl, by kernel_rfl, by kernel_rfl⟩

def pspec_l01Long_L1 (k : Nat) (b139_ : Int) (b140_ : Int) : Nat → (List Int) → Int → Option (Out ByteArray (List Int))
  | 0, _, _ => none
  | m + 1, a141_, b142_ =>
    if (decide (b142_ < b139_)) = true then
      (at' a141_ b142_).bind fun b144_ =>
      pspec_l01Long_L1 k b139_ b140_ m (a141_.set ((b142_).toNat) b140_) (wr.i64 (b142_ + 1))
    else
      some (.done a141_)
/-- spec.l01Long -/
def pspec_l01Long (k : Nat) (b139_ : Int) (b140_ : Int) : Option ByteArray :=
  if 0 ≤ b139_ ∧ b139_ ≤ 1073741824 then
    (pspec_l01Long_L1 k b139_ b140_ k (List.replicate (b139_).toNat 0) 0).bind fun out1 => match out1 with
    | .ret r => some r
    | .done a143_ =>
      some (strOfNums a143_)
  else none
theorem cspec_l01Long {k : Nat} {b139_ : Int} {b140_ : Int} {r : ByteArray} (h : pspec_l01Long k b139_ b140_ = some r) : FnO Try.prog 124 [.v (.int .i64 b139_) [], .v (.int .u8 b140_) []] (.v (.str r) []) [] := by
  refine FnO.of Try.func124 (rfl : Try.f124.body = some _) (Nat.le_of_ble_eq_true (by kernel_rfl)) (Nat.le_of_ble_eq_true (by kernel_rfl)) ?_
  intro w0 X0 Fin pv0 pb gt
  unfold pspec_l01Long at h
  refine Wc.seq ?_
  refine Wc.region [] [] [0, 1] [] [] ⟨[(0, (.v (.int .i64 b139_), [])), (1, (.v (.int .u8 b140_), []))], [], []⟩ _ (by kernel_rfl) .nil ?_
  refine Wc.seq ?_
  obtain ⟨h159, h⟩ := oguard h
  refine Wc.region [{}, { c := some (List.map cI.u8 (List.replicate (b139_).toNat 0)) }, { tk := [8] }] [] [0, 1, 5] [] [] ⟨[(0, (.v (.int .i64 b139_), [])), (1, (.v (.int .u8 b140_), [])), (5, (.v (.slx), [(0, .ex 5 true (List.map cI.u8 (List.replicate (b139_).toNat 0)))]))], [], []⟩ _ (by kernel_rfl) (.cons (rep_re (c := cI.u8) (z := 0) rfl (b139_).toNat) (.cons (ms_obl h159) .nil)) ?_
  refine Wc.seq ?_
  refine Wc.seq ?_
  refine Wc.region [] [] [0, 1, 5, 6] [] [] ⟨[(0, (.v (.int .i64 b139_), [])), (1, (.v (.int .u8 b140_), [])), (5, (.v (.slx), [(0, .ex 5 true (List.map cI.u8 (List.replicate (b139_).toNat 0)))])), (6, (.v (.int .i64 0), []))], [], []⟩ _ (by kernel_rfl) .nil ?_
  obtain ⟨out1, h160, h⟩ := obind h
  refine Wc.lastJ (fun st => ∃ (a143_ : List Int), out1 = .done a143_ ∧ st = ⟨[(5, (.v (.slx), [(0, .ex 5 true (List.map cI.u8 a143_))]))], [], []⟩) ?_ ?_
  · refine Wc.block ?_
    refine Wc.loop (fun m st => ∃ (a141_ : List Int) (b142_ : Int), st = ⟨[(0, (.v (.int .i64 b139_), [])), (1, (.v (.int .u8 b140_), [])), (5, (.v (.slx), [(0, .ex 5 true (List.map cI.u8 a141_))])), (6, (.v (.int .i64 b142_), []))], [], []⟩ ∧ pspec_l01Long_L1 k b139_ b140_ m a141_ b142_ = some out1) ?_ k ⟨_, _, rfl, h160⟩
    rintro m st ⟨a141_, b142_, rfl, h160⟩
    cases m with
    | zero => exact (onone h160).elim
    | succ m =>
      refine Wc.seq ?_
      refine Wc.seq ?_
      refine Wc.region [] [] [0, 1, 5, 6, 11] [] [] ⟨[(0, (.v (.int .i64 b139_), [])), (1, (.v (.int .u8 b140_), [])), (5, (.v (.slx), [(0, .ex 5 true (List.map cI.u8 a141_))])), (6, (.v (.int .i64 b142_), [])), (11, (.v (.bool (decide (b142_ < b139_))), []))], [], []⟩ _ (by kernel_rfl) .nil ?_
      rcases oif h160 with ⟨h161, h160⟩ | ⟨h161, h160⟩
      · refine Wc.condT h161 (by kernel_rfl) ?_
        refine Wc.fix (st' := ⟨[(0, (.v (.int .i64 b139_), [])), (1, (.v (.int .u8 b140_), [])), (5, (.v (.slx), [(0, .ex 5 true (List.map cI.u8 a141_))])), (6, (.v (.int .i64 b142_), []))], [], []⟩) [] [0, 1, 5, 6] [] [] (by kernel_rfl) ?_
        refine Wc.skip ?_
        refine Wc.seq ?_
        refine Wc.block ?_
        obtain ⟨b144_, h162, h160⟩ := obind h160
        refine Wc.region [{}, {}, {}, {}, { c := some (List.map cI.u8 (a141_.set ((b142_).toNat) b140_)) }] [] [0, 1, 5, 6] [] [] ⟨[(0, (.v (.int .i64 b139_), [])), (1, (.v (.int .u8 b140_), [])), (5, (.v (.slx), [(0, .ex 5 true (List.map cI.u8 (a141_.set ((b142_).toNat) b140_)))])), (6, (.v (.int .i64 b142_), []))], [], []⟩ _ (by kernel_rfl) (.cons (ix_obl (c := cI.u8) cI.u8_len h162) (.cons (mod_obl (off := 0) (new := [.int .u8 b140_]) (c := cI.u8) rfl rfl (at'_spec h162).2 rfl) (.cons (st_obl (sz := 1) (off := 0) (s := 1) (c := cI.u8) rfl (at'_spec h162).2 rfl (Nat.le_of_ble_eq_true rfl)) .nil))) ?_
        refine Wc.region [] [] [0, 1, 5, 6] [] [] ⟨[(0, (.v (.int .i64 b139_), [])), (1, (.v (.int .u8 b140_), [])), (5, (.v (.slx), [(0, .ex 5 true (List.map cI.u8 (a141_.set ((b142_).toNat) b140_)))])), (6, (.v (.int .i64 (wr.i64 (b142_ + 1))), []))], [], []⟩ _ (by kernel_rfl) .nil ?_
        exact ⟨_, Nat.lt_succ_self _, _, _, rfl, h160⟩
      · refine Wc.condF h161 (by kernel_rfl) ?_
        refine Wc.fix (st' := ⟨[(5, (.v (.slx), [(0, .ex 5 true (List.map cI.u8 a141_))]))], [], []⟩) [] [5] [] [] (by kernel_rfl) ?_
        refine Wc.exit ?_
        obtain rfl := Option.some.inj h160
        exact ⟨_, rfl, rfl⟩
  · rintro st ⟨a143_, rfl, rfl⟩
    refine Wc.seq ?_
    refine Wc.region [{ tk := [5] }, { v := some (.str (strOfNums a143_)) }] [] [4] [] [] ⟨[(4, (.v (.str (strOfNums a143_)), []))], [], []⟩ _ (by kernel_rfl) (.cons (bytes_obl a143_) .nil) ?_
    refine Wc.ret ?_
    obtain rfl := Option.some.inj h
    exact ⟨.inl rfl, by kernel_rfl, by kernel_rfl⟩

/-- spec.l16Any -/
def pspec_l16Any (k : Nat) (g151_ : GL01Cur) : Option (GL01Cur × (List GFile)) :=
  (pspec_l01Below k g151_ 10).bind fun i152_ =>
  (pspec_l16Files k i152_.1).bind fun p153_ =>
  if ([] : List GFile).length + p153_.2.length ≤ 1073741824 then
    if (i152_.2 == 0) = true then
      (pspec_l01Pick k p153_.1 [(bs [97]), (bs [122, 122, 122]), (bs [65]), (bs [])]).bind fun m154_ =>
      if p153_.2.length + [GFile.mk m154_.2 (bs [])].length ≤ 1073741824 then
        some (m154_.1, p153_.2 ++ [GFile.mk m154_.2 (bs [])])
      else none
    else
      if (i152_.2 == 1) = true then
        (pspec_l01Below k p153_.1 2).bind fun i155_ =>
        (pspec_l01Long k (wr.i64 (3000 + i155_.2)) 32).bind fun c156_ =>
        if p153_.2.length + [GFile.mk (bs [122, 122, 122]) c156_].length ≤ 1073741824 then
          some (i155_.1, p153_.2 ++ [GFile.mk (bs [122, 122, 122]) c156_])
        else none
      else
        some (p153_.1, p153_.2)
  else none
theorem cspec_l16Any {k : Nat} {g151_ : GL01Cur} {r : GL01Cur × (List GFile)} (h : pspec_l16Any k g151_ = some r) : FnO Try.prog 66 [.p [.sl (List.map cI.u8 g151_.gB), .int .i64 g151_.gI, .int .i64 g151_.gH] []] (.v (.sl (List.map GFile.c r.2)) [(0, .app 31)]) [(0, .p [.sl (List.map cI.u8 r.1.gB), .int .i64 r.1.gI, .int .i64 r.1.gH] [])] := by
  refine FnO.of Try.func66 (rfl : Try.f66.body = some _) (Nat.le_of_ble_eq_true (by kernel_rfl)) (Nat.le_of_ble_eq_true (by kernel_rfl)) ?_
  intro w0 X0 Fin pv0 pb gt
  unfold pspec_l16Any at h
  refine Wc.seq ?_
  refine Wc.region [] [] [0] [1000000] [] ⟨[(0, (.ptr 1000000 0, []))], [(1000000, .cells [.sl (List.map cI.u8 g151_.gB), .int .i64 g151_.gI, .int .i64 g151_.gH] [])], []⟩ _ (by kernel_rfl) .nil ?_
  refine Wc.seq ?_
  obtain ⟨i152_, h173, h⟩ := obind h
  refine Wc.region [{}, { r := some (.v (.int .i64 i152_.2) []), outs := [(0, .p [.sl (List.map cI.u8 i152_.1.gB), .int .i64 i152_.1.gI, .int .i64 i152_.1.gH] [])] }] [] [0, 3] [1000000] [] ⟨[(0, (.ptr 1000000 0, [])), (3, (.v (.int .i64 i152_.2), []))], [(1000000, .cells [.sl (List.map cI.u8 i152_.1.gB), .int .i64 i152_.1.gI, .int .i64 i152_.1.gH] [])], []⟩ _ (by kernel_rfl) (.cons (cspec_l01Below h173) .nil) ?_
  refine Wc.seq ?_
  obtain ⟨p153_, h174, h⟩ := obind h
  obtain ⟨h175, h⟩ := oguard h
  refine Wc.region [{ c := some (List.map GFile.c []) }, {}, { r := some (.v (.sl (List.map GFile.c p153_.2)) []), outs := [(0, .p [.sl (List.map cI.u8 p153_.1.gB), .int .i64 p153_.1.gI, .int .i64 p153_.1.gH] [])] }, { c := some (List.map GFile.c p153_.2), tk := [7] }, { tk := [10] }] [] [0, 3, 4] [1000000] [] ⟨[(0, (.ptr 1000000 0, [])), (3, (.v (.int .i64 i152_.2), [])), (4, (.v (.sl (List.map GFile.c p153_.2)), [(0, .app 31)]))], [(1000000, .cells [.sl (List.map cI.u8 p153_.1.gB), .int .i64 p153_.1.gI, .int .i64 p153_.1.gH] [])], []⟩ _ (by kernel_rfl) (.cons (cl_nil GFile.c) (.cons (cspec_l16Files h174) (.cons (app_re0 GFile.c p153_.2) (.cons (app_leaf (c := GFile.c) (ys := p153_.2) GFile.c_leaf) (.cons (app_obl2 (c := GFile.c) (xs := []) (ys := p153_.2) GFile.c_len h175) .nil))))) ?_
  refine Wc.seq ?_
  refine Wc.seq ?_
  refine Wc.region [] [] [0, 4, 11] [1000000] [] ⟨[(0, (.ptr 1000000 0, [])), (4, (.v (.sl (List.map GFile.c p153_.2)), [(0, .app 31)])), (11, (.v (.int .i64 i152_.2), []))], [(1000000, .cells [.sl (List.map cI.u8 p153_.1.gB), .int .i64 p153_.1.gI, .int .i64 p153_.1.gH] [])], []⟩ _ (by kernel_rfl) .nil ?_
  refine Wc.block ?_
  refine Wc.seq ?_
  refine Wc.region [] [] [0, 4, 11, 12] [1000000] [] ⟨[(0, (.ptr 1000000 0, [])), (4, (.v (.sl (List.map GFile.c p153_.2)), [(0, .app 31)])), (11, (.v (.int .i64 i152_.2), [])), (12, (.v (.bool (i152_.2 == 0)), []))], [(1000000, .cells [.sl (List.map cI.u8 p153_.1.gB), .int .i64 p153_.1.gI, .int .i64 p153_.1.gH] [])], []⟩ _ (by kernel_rfl) .nil ?_
  rcases oif h with ⟨h176, h⟩ | ⟨h176, h⟩
  · refine Wc.condT h176 (by kernel_rfl) ?_
    obtain ⟨m154_, h177, h⟩ := obind h
    obtain ⟨h178, h⟩ := oguard h
    refine Wc.region [{ tk := [4] }, {}, { c := some (List.map cS [(bs [97]), (bs [122, 122, 122]), (bs [65]), (bs [])]) }, { r := some (.v (.str m154_.2) []), outs := [(0, .p [.sl (List.map cI.u8 m154_.1.gB), .int .i64 m154_.1.gI, .int .i64 m154_.1.gH] [])] }, {}, { c := some (List.map GFile.c [GFile.mk m154_.2 (bs [])]) }, { c := some (List.map GFile.c (p153_.2 ++ [GFile.mk m154_.2 (bs [])])), tk := [14] }, { tk := [20] }] [] [4] [1000000] [] ⟨[(4, (.v (.sl (List.map GFile.c (p153_.2 ++ [GFile.mk m154_.2 (bs [])]))), [(0, .app 31)]))], [(1000000, .cells [.sl (List.map cI.u8 m154_.1.gB), .int .i64 m154_.1.gI, .int .i64 m154_.1.gH] [])], []⟩ _ (by kernel_rfl) (.cons (cl_cons (c := cS) (x := (bs [97])) rfl (cl_cons (c := cS) (x := (bs [122, 122, 122])) rfl (cl_cons (c := cS) (x := (bs [65])) rfl (cl_cons (c := cS) (x := (bs [])) rfl (cl_nil cS))))) (.cons (cspec_l01Pick h177) (.cons (cl_cons (c := GFile.c) (x := GFile.mk m154_.2 (bs [])) (GFile.c_eq (GFile.mk m154_.2 (bs []))) (cl_nil GFile.c)) (.cons (app_re2 GFile.c p153_.2 [GFile.mk m154_.2 (bs [])]) (.cons (app_leaf (c := GFile.c) (ys := [GFile.mk m154_.2 (bs [])]) GFile.c_leaf) (.cons (app_obl2 (c := GFile.c) (xs := p153_.2) (ys := [GFile.mk m154_.2 (bs [])]) GFile.c_len h178) .nil)))))) ?_
    refine Wc.seq ?_
    refine Wc.region [{ tk := [4] }, { tk := [31] }] [] [2] [1000000] [] ⟨[(2, (.v (.sl (List.map GFile.c (p153_.2 ++ [GFile.mk m154_.2 (bs [])]))), [(0, .app 31)]))], [(1000000, .cells [.sl (List.map cI.u8 m154_.1.gB), .int .i64 m154_.1.gI, .int .i64 m154_.1.gH] [])], []⟩ _ (by kernel_rfl) .nil ?_
    refine Wc.ret ?_
    obtain rfl := Option.some.inj h
    exact ⟨.inl rfl, by kernel_rfl, by kernel_rfl⟩
  · refine Wc.condF h176 (by kernel_rfl) ?_
    refine Wc.seq ?_
    refine Wc.region [] [] [0, 4, 21] [1000000] [] ⟨[(0, (.ptr 1000000 0, [])), (4, (.v (.sl (List.map GFile.c p153_.2)), [(0, .app 31)])), (21, (.v (.bool (i152_.2 == 1)), []))], [(1000000, .cells [.sl (List.map cI.u8 p153_.1.gB), .int .i64 p153_.1.gI, .int .i64 p153_.1.gH] [])], []⟩ _ (by kernel_rfl) .nil ?_
    rcases oif h with ⟨h179, h⟩ | ⟨h179, h⟩
    · refine Wc.condT h179 (by kernel_rfl) ?_
      obtain ⟨i155_, h180, h⟩ := obind h
      obtain ⟨c156_, h181, h⟩ := obind h
      obtain ⟨h182, h⟩ := oguard h
      refine Wc.region [{ tk := [4] }, {}, { r := some (.v (.int .i64 i155_.2) []), outs := [(0, .p [.sl (List.map cI.u8 i155_.1.gB), .int .i64 i155_.1.gI, .int .i64 i155_.1.gH] [])] }, {}, { r := some (.v (.str c156_) []) }, {}, { c := some (List.map GFile.c [GFile.mk (bs [122, 122, 122]) c156_]) }, { c := some (List.map GFile.c (p153_.2 ++ [GFile.mk (bs [122, 122, 122]) c156_])), tk := [23] }, { tk := [30] }] [] [4] [1000000] [] ⟨[(4, (.v (.sl (List.map GFile.c (p153_.2 ++ [GFile.mk (bs [122, 122, 122]) c156_]))), [(0, .app 31)]))], [(1000000, .cells [.sl (List.map cI.u8 i155_.1.gB), .int .i64 i155_.1.gI, .int .i64 i155_.1.gH] [])], []⟩ _ (by kernel_rfl) (.cons (cspec_l01Below h180) (.cons (cspec_l01Long h181) (.cons (cl_cons (c := GFile.c) (x := GFile.mk (bs [122, 122, 122]) c156_) (GFile.c_eq (GFile.mk (bs [122, 122, 122]) c156_)) (cl_nil GFile.c)) (.cons (app_re2 GFile.c p153_.2 [GFile.mk (bs [122, 122, 122]) c156_]) (.cons (app_leaf (c := GFile.c) (ys := [GFile.mk (bs [122, 122, 122]) c156_]) GFile.c_leaf) (.cons (app_obl2 (c := GFile.c) (xs := p153_.2) (ys := [GFile.mk (bs [122, 122, 122]) c156_]) GFile.c_len h182) .nil)))))) ?_
      refine Wc.seq ?_
      refine Wc.region [{ tk := [4] }, { tk := [31] }] [] [2] [1000000] [] ⟨[(2, (.v (.sl (List.map GFile.c (p153_.2 ++ [GFile.mk (bs [122, 122, 122]) c156_]))), [(0, .app 31)]))], [(1000000, .cells [.sl (List.map cI.u8 i155_.1.gB), .int .i64 i155_.1.gI, .int .i64 i155_.1.gH] [])], []⟩ _ (by kernel_rfl) .nil ?_
      refine Wc.ret ?_
      obtain rfl := Option.some.inj h
      exact ⟨.inl rfl, by kernel_rfl, by kernel_rfl⟩
    · refine Wc.condF h179 (by kernel_rfl) ?_
      refine Wc.fix (st' := ⟨[(4, (.v (.sl (List.map GFile.c p153_.2)), [(0, .app 31)]))], [(1000000, .cells [.sl (List.map cI.u8 p153_.1.gB), .int .i64 p153_.1.gI, .int .i64 p153_.1.gH] [])], []⟩) [] [4] [1000000] [] (by kernel_rfl) ?_
      refine Wc.skip ?_
      refine Wc.seq ?_
      refine Wc.region [{ tk := [4] }, { tk := [31] }] [] [2] [1000000] [] ⟨[(2, (.v (.sl (List.map GFile.c p153_.2)), [(0, .app 31)]))], [(1000000, .cells [.sl (List.map cI.u8 p153_.1.gB), .int .i64 p153_.1.gI, .int .i64 p153_.1.gH] [])], []⟩ _ (by kernel_rfl) .nil ?_
      refine Wc.ret ?_
      obtain rfl := Option.some.inj h
      exact ⟨.inl rfl, by kernel_rfl, by kernel_rfl⟩

/-- spec.DrawStored -/
def pspec_DrawStored (k : Nat) (a161_ : List Int) : Option ((List GFile) × ByteArray × ByteArray) :=
  (pspec_l01New k a161_).bind fun g162_ =>
  (pspec_l01Pick k g162_ [(bs [111, 110, 101]), (bs [112]), (bs [122, 122, 122, 122]), (bs [66])]).bind fun m163_ =>
  (pspec_l16Any k m163_.1).bind fun p164_ =>
  some (p164_.2, m163_.2, (bs [112, 40, 122, 41, 46, 10]))
theorem cspec_DrawStored {k : Nat} {a161_ : List Int} {r : (List GFile) × ByteArray × ByteArray} (h : pspec_DrawStored k a161_ = some r) : FnO Try.prog 12 [.v (.sl (List.map cI.u8 a161_)) []] (.v (.tup [.sl (List.map GFile.c r.1), .str r.2.1, .str r.2.2]) [(0, .app 31)]) [] := by
  refine FnO.of Try.func12 (rfl : Try.f12.body = some _) (Nat.le_of_ble_eq_true (by kernel_rfl)) (Nat.le_of_ble_eq_true (by kernel_rfl)) ?_
  intro w0 X0 Fin pv0 pb gt
  unfold pspec_DrawStored at h
  refine Wc.seq ?_
  refine Wc.region [] [] [0] [] [] ⟨[(0, (.v (.sl (List.map cI.u8 a161_)), []))], [], []⟩ _ (by kernel_rfl) .nil ?_
  refine Wc.seq ?_
  obtain ⟨g162_, h186, h⟩ := obind h
  refine Wc.region [{}, { r := some (.p [.sl (List.map cI.u8 g162_.gB), .int .i64 g162_.gI, .int .i64 g162_.gH] []) }] [] [5] [8] [] ⟨[(5, (.ptr 8 0, []))], [(8, .cells [.sl (List.map cI.u8 g162_.gB), .int .i64 g162_.gI, .int .i64 g162_.gH] [])], []⟩ _ (by kernel_rfl) (.cons (cspec_l01New h186) .nil) ?_
  refine Wc.seq ?_
  obtain ⟨m163_, h187, h⟩ := obind h
  refine Wc.region [{}, { c := some (List.map cS [(bs [111, 110, 101]), (bs [112]), (bs [122, 122, 122, 122]), (bs [66])]) }, { r := some (.v (.str m163_.2) []), outs := [(0, .p [.sl (List.map cI.u8 m163_.1.gB), .int .i64 m163_.1.gI, .int .i64 m163_.1.gH] [])] }] [] [5, 6] [8] [] ⟨[(5, (.ptr 8 0, [])), (6, (.v (.str m163_.2), []))], [(8, .cells [.sl (List.map cI.u8 m163_.1.gB), .int .i64 m163_.1.gI, .int .i64 m163_.1.gH] [])], []⟩ _ (by kernel_rfl) (.cons (cl_cons (c := cS) (x := (bs [111, 110, 101])) rfl (cl_cons (c := cS) (x := (bs [112])) rfl (cl_cons (c := cS) (x := (bs [122, 122, 122, 122])) rfl (cl_cons (c := cS) (x := (bs [66])) rfl (cl_nil cS))))) (.cons (cspec_l01Pick h187) .nil)) ?_
  refine Wc.seq ?_
  obtain ⟨p164_, h188, h⟩ := obind h
  refine Wc.region [{}, { r := some (.v (.sl (List.map GFile.c p164_.2)) [(0, .app 31)]), outs := [(0, .p [.sl (List.map cI.u8 p164_.1.gB), .int .i64 p164_.1.gI, .int .i64 p164_.1.gH] [])] }, {}, { tk := [13] }] [] [2, 3, 4] [] [] ⟨[(2, (.v (.sl (List.map GFile.c p164_.2)), [(0, .app 31)])), (3, (.v (.str m163_.2), [])), (4, (.v (.str (bs [112, 40, 122, 41, 46, 10])), []))], [], []⟩ _ (by kernel_rfl) (.cons (cspec_l16Any h188) .nil) ?_
  refine Wc.ret ?_
  obtain rfl := Option.some.inj h
  exact ⟨.inl rfl, by kernel_rfl, by kernel_rfl⟩

/-- spec.DrawFileAt -/
def pspec_DrawFileAt (k : Nat) (a169_ : List Int) : Option ((List GFile) × ByteArray) :=
  (pspec_l01New k a169_).bind fun g170_ =>
  (pspec_l01Pick k g170_ [(bs [111, 110, 101]), (bs [116, 119, 111]), (bs [110, 111, 110, 101])]).bind fun m171_ =>
  (pspec_l16Any k m171_.1).bind fun p172_ =>
  some (p172_.2, m171_.2)
theorem cspec_DrawFileAt {k : Nat} {a169_ : List Int} {r : (List GFile) × ByteArray} (h : pspec_DrawFileAt k a169_ = some r) : FnO Try.prog 14 [.v (.sl (List.map cI.u8 a169_)) []] (.v (.tup [.sl (List.map GFile.c r.1), .str r.2]) [(0, .app 31)]) [] := by
  refine FnO.of Try.func14 (rfl : Try.f14.body = some _) (Nat.le_of_ble_eq_true (by kernel_rfl)) (Nat.le_of_ble_eq_true (by kernel_rfl)) ?_
  intro w0 X0 Fin pv0 pb gt
  unfold pspec_DrawFileAt at h
  refine Wc.seq ?_
  refine Wc.region [] [] [0] [] [] ⟨[(0, (.v (.sl (List.map cI.u8 a169_)), []))], [], []⟩ _ (by kernel_rfl) .nil ?_
  refine Wc.seq ?_
  obtain ⟨g170_, h192, h⟩ := obind h
  refine Wc.region [{}, { r := some (.p [.sl (List.map cI.u8 g170_.gB), .int .i64 g170_.gI, .int .i64 g170_.gH] []) }] [] [4] [7] [] ⟨[(4, (.ptr 7 0, []))], [(7, .cells [.sl (List.map cI.u8 g170_.gB), .int .i64 g170_.gI, .int .i64 g170_.gH] [])], []⟩ _ (by kernel_rfl) (.cons (cspec_l01New h192) .nil) ?_
  refine Wc.seq ?_
  obtain ⟨m171_, h193, h⟩ := obind h
  refine Wc.region [{}, { c := some (List.map cS [(bs [111, 110, 101]), (bs [116, 119, 111]), (bs [110, 111, 110, 101])]) }, { r := some (.v (.str m171_.2) []), outs := [(0, .p [.sl (List.map cI.u8 m171_.1.gB), .int .i64 m171_.1.gI, .int .i64 m171_.1.gH] [])] }] [] [4, 5] [7] [] ⟨[(4, (.ptr 7 0, [])), (5, (.v (.str m171_.2), []))], [(7, .cells [.sl (List.map cI.u8 m171_.1.gB), .int .i64 m171_.1.gI, .int .i64 m171_.1.gH] [])], []⟩ _ (by kernel_rfl) (.cons (cl_cons (c := cS) (x := (bs [111, 110, 101])) rfl (cl_cons (c := cS) (x := (bs [116, 119, 111])) rfl (cl_cons (c := cS) (x := (bs [110, 111, 110, 101])) rfl (cl_nil cS)))) (.cons (cspec_l01Pick h193) .nil)) ?_
  refine Wc.seq ?_
  obtain ⟨p172_, h194, h⟩ := obind h
  refine Wc.region [{}, { r := some (.v (.sl (List.map GFile.c p172_.2)) [(0, .app 31)]), outs := [(0, .p [.sl (List.map cI.u8 p172_.1.gB), .int .i64 p172_.1.gI, .int .i64 p172_.1.gH] [])] }, {}, { tk := [12] }] [] [2, 3] [] [] ⟨[(2, (.v (.sl (List.map GFile.c p172_.2)), [(0, .app 31)])), (3, (.v (.str m171_.2), []))], [], []⟩ _ (by kernel_rfl) (.cons (cspec_l16Any h194) .nil) ?_
  refine Wc.ret ?_
  obtain rfl := Option.some.inj h
  exact ⟨.inl rfl, by kernel_rfl, by kernel_rfl⟩

def pspec_FileAt_L1 (k : Nat) (e173_ : List GFile) (c174_ : ByteArray) : Nat → Int → Option (Out (ByteArray × Bool) Unit)
  | 0, _ => none
  | m + 1, b175_ =>
    if (decide (b175_ < (e173_.length : Int))) = true then
      (at' e173_ b175_).bind fun f176_ =>
      if (sEq f176_.gName c174_) = true then
        (at' e173_ b175_).bind fun f177_ =>
        some (.ret (f177_.gText, true))
      else
        pspec_FileAt_L1 k e173_ c174_ m (wr.i64 (b175_ + 1))
    else
      some (.done ())
/-- spec.FileAt -/
def pspec_FileAt (k : Nat) (e173_ : List GFile) (c174_ : ByteArray) : Option (ByteArray × Bool) :=
  (pspec_FileAt_L1 k e173_ c174_ k 0).bind fun out1 => match out1 with
  | .ret r => some r
  | .done () =>
    some ((bs []), false)
theorem cspec_FileAt {k : Nat} {e173_ : List GFile} {c174_ : ByteArray} {r : ByteArray × Bool} (h : pspec_FileAt k e173_ c174_ = some r) : FnO Try.prog 15 [.v (.sl (List.map GFile.c e173_)) [], .v (.str c174_) []] (.v (.tup [.str r.1, .bool r.2]) []) [] := by
  refine FnO.of Try.func15 (rfl : Try.f15.body = some _) (Nat.le_of_ble_eq_true (by kernel_rfl)) (Nat.le_of_ble_eq_true (by kernel_rfl)) ?_
  intro w0 X0 Fin pv0 pb gt
  unfold pspec_FileAt at h
  refine Wc.seq ?_
  refine Wc.region [] [] [0, 1] [] [] ⟨[(0, (.v (.sl (List.map GFile.c e173_)), [])), (1, (.v (.str c174_), []))], [], []⟩ _ (by kernel_rfl) .nil ?_
  refine Wc.seq ?_
  refine Wc.seq ?_
  refine Wc.region [] [] [0, 1, 6] [] [] ⟨[(0, (.v (.sl (List.map GFile.c e173_)), [])), (1, (.v (.str c174_), [])), (6, (.v (.int .i64 0), []))], [], []⟩ _ (by kernel_rfl) .nil ?_
  obtain ⟨out1, h195, h⟩ := obind h
  refine Wc.lastJ (fun st => out1 = .done () ∧ st = ⟨[], [], []⟩) ?_ ?_
  · refine Wc.block ?_
    refine Wc.loop (fun m st => ∃ (b175_ : Int), st = ⟨[(0, (.v (.sl (List.map GFile.c e173_)), [])), (1, (.v (.str c174_), [])), (6, (.v (.int .i64 b175_), []))], [], []⟩ ∧ pspec_FileAt_L1 k e173_ c174_ m b175_ = some out1) ?_ k ⟨_, rfl, h195⟩
    rintro m st ⟨b175_, rfl, h195⟩
    cases m with
    | zero => exact (onone h195).elim
    | succ m =>
      refine Wc.seq ?_
      refine Wc.seq ?_
      refine Wc.region [{}, {}, { v := some (.int .i64 (e173_.length : Int)) }] [] [0, 1, 6, 10] [] [] ⟨[(0, (.v (.sl (List.map GFile.c e173_)), [])), (1, (.v (.str c174_), [])), (6, (.v (.int .i64 b175_), [])), (10, (.v (.bool (decide (b175_ < (e173_.length : Int)))), []))], [], []⟩ _ (by kernel_rfl) (.cons (len_obl GFile.c e173_) .nil) ?_
      rcases oif h195 with ⟨h196, h195⟩ | ⟨h196, h195⟩
      · refine Wc.condT h196 (by kernel_rfl) ?_
        refine Wc.fix (st' := ⟨[(0, (.v (.sl (List.map GFile.c e173_)), [])), (1, (.v (.str c174_), [])), (6, (.v (.int .i64 b175_), []))], [], []⟩) [] [0, 1, 6] [] [] (by kernel_rfl) ?_
        refine Wc.skip ?_
        refine Wc.seq ?_
        refine Wc.block ?_
        refine Wc.seq ?_
        obtain ⟨f176_, h197, h195⟩ := obind h195
        refine Wc.region [{}, {}, { v := some (.vptr [.str f176_.gName, .str f176_.gText]) }] [] [0, 1, 6, 19] [] [] ⟨[(0, (.v (.sl (List.map GFile.c e173_)), [])), (1, (.v (.str c174_), [])), (6, (.v (.int .i64 b175_), [])), (19, (.v (.bool (sEq f176_.gName c174_)), []))], [], []⟩ _ (by kernel_rfl) (.cons (at_obl (c := GFile.c) (GFile.c_eq f176_) GFile.c_len h197) (.cons (len_ok 1 [.str f176_.gName, .str f176_.gText]) .nil)) ?_
        rcases oif h195 with ⟨h198, h195⟩ | ⟨h198, h195⟩
        · refine Wc.condT h198 (by kernel_rfl) ?_
          refine Wc.seq ?_
          obtain ⟨f177_, h199, h195⟩ := obind h195
          refine Wc.region [{}, {}, { v := some (.vptr [.str f177_.gName, .str f177_.gText]) }] [] [4, 5] [] [] ⟨[(4, (.v (.str f177_.gText), [])), (5, (.v (.bool true), []))], [], []⟩ _ (by kernel_rfl) (.cons (at_obl (c := GFile.c) (GFile.c_eq f177_) GFile.c_len h199) (.cons (len_ok 1 [.str f177_.gText]) .nil)) ?_
          refine Wc.ret ?_
          obtain rfl := Option.some.inj h195
          obtain rfl := Option.some.inj h
          exact ⟨.inl rfl, by kernel_rfl, by kernel_rfl⟩
        · refine Wc.condF h198 (by kernel_rfl) ?_
          refine Wc.fix (st' := ⟨[(0, (.v (.sl (List.map GFile.c e173_)), [])), (1, (.v (.str c174_), [])), (6, (.v (.int .i64 b175_), []))], [], []⟩) [] [0, 1, 6] [] [] (by kernel_rfl) ?_
          refine Wc.skip ?_
          refine Wc.region [] [] [0, 1, 6] [] [] ⟨[(0, (.v (.sl (List.map GFile.c e173_)), [])), (1, (.v (.str c174_), [])), (6, (.v (.int .i64 (wr.i64 (b175_ + 1))), []))], [], []⟩ _ (by kernel_rfl) .nil ?_
          exact ⟨_, Nat.lt_succ_self _, _, rfl, h195⟩
      · refine Wc.condF h196 (by kernel_rfl) ?_
        refine Wc.fix (st' := ⟨[], [], []⟩) [] [] [] [] (by kernel_rfl) ?_
        refine Wc.exit ?_
        obtain rfl := Option.some.inj h195
        exact ⟨rfl, rfl⟩
  · rintro st ⟨rfl, rfl⟩
    refine Wc.seq ?_
    refine Wc.region [] [] [4, 5] [] [] ⟨[(4, (.v (.str (bs [])), [])), (5, (.v (.bool false), []))], [], []⟩ _ (by kernel_rfl) .nil ?_
    refine Wc.ret ?_
    obtain rfl := Option.some.inj h
    exact ⟨.inl rfl, by kernel_rfl, by kernel_rfl⟩

def plaws_sameFiles_L1 (k : Nat) (e178_ : List GFile) (e179_ : List GFile) : Nat → Int → Option (Out Bool Unit)
  | 0, _ => none
  | m + 1, b180_ =>
    if (decide (b180_ < (e178_.length : Int))) = true then
      (at' e178_ b180_).bind fun f181_ =>
      (at' e179_ b180_).bind fun f182_ =>
      if (!(sEq f181_.gName f182_.gName && (sEq f181_.gText f182_.gText && true))) = true then
        some (.ret false)
      else
        plaws_sameFiles_L1 k e178_ e179_ m (wr.i64 (b180_ + 1))
    else
      some (.done ())
/-- laws.sameFiles -/
def plaws_sameFiles (k : Nat) (e178_ : List GFile) (e179_ : List GFile) : Option Bool :=
  if ((e178_.length : Int) != (e179_.length : Int)) = true then
    some false
  else
    (plaws_sameFiles_L1 k e178_ e179_ k 0).bind fun out1 => match out1 with
    | .ret r => some r
    | .done () =>
      some true
theorem claws_sameFiles {k : Nat} {e178_ : List GFile} {e179_ : List GFile} {r : Bool} (h : plaws_sameFiles k e178_ e179_ = some r) : FnO Try.prog 17 [.v (.sl (List.map GFile.c e178_)) [], .v (.sl (List.map GFile.c e179_)) []] (.v (.bool r) []) [] := by
  refine FnO.of Try.func17 (rfl : Try.f17.body = some _) (Nat.le_of_ble_eq_true (by kernel_rfl)) (Nat.le_of_ble_eq_true (by kernel_rfl)) ?_
  intro w0 X0 Fin pv0 pb gt
  unfold plaws_sameFiles at h
  refine Wc.seq ?_
  refine Wc.region [] [] [0, 1] [] [] ⟨[(0, (.v (.sl (List.map GFile.c e178_)), [])), (1, (.v (.sl (List.map GFile.c e179_)), []))], [], []⟩ _ (by kernel_rfl) .nil ?_
  refine Wc.seq ?_
  refine Wc.seq ?_
  refine Wc.region [{}, { v := some (.int .i64 (e178_.length : Int)) }, {}, { v := some (.int .i64 (e179_.length : Int)) }] [] [0, 1, 10] [] [] ⟨[(0, (.v (.sl (List.map GFile.c e178_)), [])), (1, (.v (.sl (List.map GFile.c e179_)), [])), (10, (.v (.bool ((e178_.length : Int) != (e179_.length : Int))), []))], [], []⟩ _ (by kernel_rfl) (.cons (len_obl GFile.c e178_) (.cons (len_obl GFile.c e179_) .nil)) ?_
  rcases oif h with ⟨h200, h⟩ | ⟨h200, h⟩
  · refine Wc.condT h200 (by kernel_rfl) ?_
    refine Wc.seq ?_
    refine Wc.region [] [] [4] [] [] ⟨[(4, (.v (.bool false), []))], [], []⟩ _ (by kernel_rfl) .nil ?_
    refine Wc.ret ?_
    obtain rfl := Option.some.inj h
    exact ⟨.inl rfl, by kernel_rfl, by kernel_rfl⟩
  · refine Wc.condF h200 (by kernel_rfl) ?_
    refine Wc.fix (st' := ⟨[(0, (.v (.sl (List.map GFile.c e178_)), [])), (1, (.v (.sl (List.map GFile.c e179_)), []))], [], []⟩) [] [0, 1] [] [] (by kernel_rfl) ?_
    refine Wc.skip ?_
    refine Wc.seq ?_
    refine Wc.seq ?_
    refine Wc.region [] [] [0, 1, 5] [] [] ⟨[(0, (.v (.sl (List.map GFile.c e178_)), [])), (1, (.v (.sl (List.map GFile.c e179_)), [])), (5, (.v (.int .i64 0), []))], [], []⟩ _ (by kernel_rfl) .nil ?_
    obtain ⟨out1, h201, h⟩ := obind h
    refine Wc.lastJ (fun st => out1 = .done () ∧ st = ⟨[], [], []⟩) ?_ ?_
    · refine Wc.block ?_
      refine Wc.loop (fun m st => ∃ (b180_ : Int), st = ⟨[(0, (.v (.sl (List.map GFile.c e178_)), [])), (1, (.v (.sl (List.map GFile.c e179_)), [])), (5, (.v (.int .i64 b180_), []))], [], []⟩ ∧ plaws_sameFiles_L1 k e178_ e179_ m b180_ = some out1) ?_ k ⟨_, rfl, h201⟩
      rintro m st ⟨b180_, rfl, h201⟩
      cases m with
      | zero => exact (onone h201).elim
      | succ m =>
        refine Wc.seq ?_
        refine Wc.seq ?_
        refine Wc.region [{}, {}, { v := some (.int .i64 (e178_.length : Int)) }] [] [0, 1, 5, 14] [] [] ⟨[(0, (.v (.sl (List.map GFile.c e178_)), [])), (1, (.v (.sl (List.map GFile.c e179_)), [])), (5, (.v (.int .i64 b180_), [])), (14, (.v (.bool (decide (b180_ < (e178_.length : Int)))), []))], [], []⟩ _ (by kernel_rfl) (.cons (len_obl GFile.c e178_) .nil) ?_
        rcases oif h201 with ⟨h202, h201⟩ | ⟨h202, h201⟩
        · refine Wc.condT h202 (by kernel_rfl) ?_
          refine Wc.fix (st' := ⟨[(0, (.v (.sl (List.map GFile.c e178_)), [])), (1, (.v (.sl (List.map GFile.c e179_)), [])), (5, (.v (.int .i64 b180_), []))], [], []⟩) [] [0, 1, 5] [] [] (by kernel_rfl) ?_
          refine Wc.skip ?_
          refine Wc.seq ?_
          refine Wc.block ?_
          refine Wc.seq ?_
          obtain ⟨f181_, h203, h201⟩ := obind h201
          obtain ⟨f182_, h204, h201⟩ := obind h201
          refine Wc.draw hmix [{}, {}, { v := some (.vptr [.str f181_.gName, .str f181_.gText]) }, {}, {}, {}, { v := some (.vptr [.str f182_.gName, .str f182_.gText]) }] [] [0, 1, 5, 25] [] [] ⟨[(0, (.v (.sl (List.map GFile.c e178_)), [])), (1, (.v (.sl (List.map GFile.c e179_)), [])), (5, (.v (.int .i64 b180_), [])), (25, (.v (.bool (!(sEq f181_.gName f182_.gName && (sEq f181_.gText f182_.gText && true)))), []))], [], []⟩ _ (by kernel_rfl) (fun X => by kernel_rfl) (.cons (at_obl (c := GFile.c) (GFile.c_eq f181_) GFile.c_len h203) (.cons (len_ok 2 [.str f181_.gName, .str f181_.gText]) (.cons (at_obl (c := GFile.c) (GFile.c_eq f182_) GFile.c_len h204) (.cons (len_ok 2 [.str f182_.gName, .str f182_.gText]) .nil)))) ?_
          rcases oif h201 with ⟨h205, h201⟩ | ⟨h205, h201⟩
          · refine Wc.condT h205 (by kernel_rfl) ?_
            refine Wc.seq ?_
            refine Wc.region [] [] [4] [] [] ⟨[(4, (.v (.bool false), []))], [], []⟩ _ (by kernel_rfl) .nil ?_
            refine Wc.ret ?_
            obtain rfl := Option.some.inj h201
            obtain rfl := Option.some.inj h
            exact ⟨.inl rfl, by kernel_rfl, by kernel_rfl⟩
          · refine Wc.condF h205 (by kernel_rfl) ?_
            refine Wc.fix (st' := ⟨[(0, (.v (.sl (List.map GFile.c e178_)), [])), (1, (.v (.sl (List.map GFile.c e179_)), [])), (5, (.v (.int .i64 b180_), []))], [], []⟩) [] [0, 1, 5] [] [] (by kernel_rfl) ?_
            refine Wc.skip ?_
            refine Wc.region [] [] [0, 1, 5] [] [] ⟨[(0, (.v (.sl (List.map GFile.c e178_)), [])), (1, (.v (.sl (List.map GFile.c e179_)), [])), (5, (.v (.int .i64 (wr.i64 (b180_ + 1))), []))], [], []⟩ _ (by kernel_rfl) .nil ?_
            exact ⟨_, Nat.lt_succ_self _, _, rfl, h201⟩
        · refine Wc.condF h202 (by kernel_rfl) ?_
          refine Wc.fix (st' := ⟨[], [], []⟩) [] [] [] [] (by kernel_rfl) ?_
          refine Wc.exit ?_
          obtain rfl := Option.some.inj h201
          exact ⟨rfl, rfl⟩
    · rintro st ⟨rfl, rfl⟩
      refine Wc.seq ?_
      refine Wc.region [] [] [4] [] [] ⟨[(4, (.v (.bool true), []))], [], []⟩ _ (by kernel_rfl) .nil ?_
      refine Wc.ret ?_
      obtain rfl := Option.some.inj h
      exact ⟨.inl rfl, by kernel_rfl, by kernel_rfl⟩

def plaws_FnFiles_L1 (k : Nat) (q185_ : (List GFile)) (o186_ : (List GFile) × Bool) : Nat → Int → Option (Out Bool Unit)
  | 0, _ => none
  | m + 1, b188_ =>
    if (decide (b188_ < (q185_.length : Int))) = true then
      if o186_.2 = true then
        (at' q185_ b188_).bind fun f189_ =>
        (pimpl_FileAt k o186_.1 f189_.gName).bind fun r190_ =>
        if (!r190_.2) = true then
          some (.ret false)
        else
          (at' q185_ b188_).bind fun f191_ =>
          if (!(sEq r190_.1 f191_.gText)) = true then
            some (.ret false)
          else
            plaws_FnFiles_L1 k q185_ o186_ m (wr.i64 (b188_ + 1))
      else
        some (.done ())
    else
      some (.done ())
/-- laws.FnFiles -/
def plaws_FnFiles (k : Nat) (a183_ : List Int) : Option Bool :=
  (plaws_big k a183_).bind fun d184_ =>
  if d184_ = true then
    some true
  else
    (pspec_DrawFiles k a183_).bind fun q185_ =>
    (pimpl_Stored k q185_ (bs [109, 105, 100, 100, 108, 101]) (bs [115, 97, 105, 100])).bind fun o186_ =>
    (pimpl_FileAt k o186_.1 (bs [109, 105, 100, 100, 108, 101])).bind fun r187_ =>
    (plaws_FnFiles_L1 k q185_ o186_ k 0).bind fun out1 => match out1 with
    | .ret r => some r
    | .done () =>
      (pspec_DrawStored k a183_).bind fun s192_ =>
      (pimpl_Stored k s192_.1 s192_.2.1 s192_.2.2).bind fun o193_ =>
      (pspec_Stored k s192_.1 s192_.2.1 s192_.2.2).bind fun o194_ =>
      (pspec_DrawFileAt k a183_).bind fun t195_ =>
      (pimpl_FileAt k t195_.1 t195_.2).bind fun r196_ =>
      (pspec_FileAt k t195_.1 t195_.2).bind fun r197_ =>
      if o186_.2 = true then
        if r187_.2 = true then
          if (sEq r187_.1 (bs [115, 97, 105, 100])) = true then
            (pimpl_FilesOk k o186_.1).bind fun d198_ =>
            if d198_ = true then
              if (o193_.2 == o194_.2) = true then
                (plaws_sameFiles k o193_.1 o194_.1).bind fun d199_ =>
                if d199_ = true then
                  if (sEq r196_.1 r197_.1) = true then
                    if (r196_.2 == r197_.2) = true then
                      (pimpl_FilesOk k s192_.1).bind fun d200_ =>
                      (pspec_FilesOk k s192_.1).bind fun d201_ =>
                      some (d200_ == d201_)
                    else
                      some false
                  else
                    some false
                else
                  some false
              else
                some false
            else
              some false
          else
            some false
        else
          some false
      else
        some false
set_option maxHeartbeats 4000000 in
theorem claws_FnFiles {k : Nat} {a183_ : List Int} {r : Bool} (h : plaws_FnFiles k a183_ = some r) : FnO Try.prog 3 [.v (.sl (List.map cI.u8 a183_)) []] (.v (.bool r) []) [] := by
  refine FnO.of Try.func3 (rfl : Try.f3.body = some _) (Nat.le_of_ble_eq_true (by kernel_rfl)) (Nat.le_of_ble_eq_true (by kernel_rfl)) ?_
  intro w0 X0 Fin pv0 pb gt
  unfold plaws_FnFiles at h
  refine Wc.seq ?_
  refine Wc.region [] [] [0] [] [] ⟨[(0, (.v (.sl (List.map cI.u8 a183_)), []))], [], []⟩ _ (by kernel_rfl) .nil ?_
  refine Wc.seq ?_
  refine Wc.seq ?_
  obtain ⟨d184_, h206, h⟩ := obind h
  refine Wc.region [{}, { r := some (.v (.bool d184_) []) }] [] [0, 25] [] [] ⟨[(0, (.v (.sl (List.map cI.u8 a183_)), [])), (25, (.v (.bool d184_), []))], [], []⟩ _ (by kernel_rfl) (.cons (claws_big h206) .nil) ?_
  rcases oif h with ⟨h207, h⟩ | ⟨h207, h⟩
  · refine Wc.condT h207 (by kernel_rfl) ?_
    refine Wc.seq ?_
    refine Wc.region [] [] [2] [] [] ⟨[(2, (.v (.bool true), []))], [], []⟩ _ (by kernel_rfl) .nil ?_
    refine Wc.ret ?_
    obtain rfl := Option.some.inj h
    exact ⟨.inl rfl, by kernel_rfl, by kernel_rfl⟩
  · refine Wc.condF h207 (by kernel_rfl) ?_
    refine Wc.fix (st' := ⟨[(0, (.v (.sl (List.map cI.u8 a183_)), []))], [], []⟩) [] [0] [] [] (by kernel_rfl) ?_
    refine Wc.skip ?_
    refine Wc.seq ?_
    obtain ⟨q185_, h208, h⟩ := obind h
    refine Wc.region [{}, { r := some (.v (.sl (List.map GFile.c q185_)) []) }] [] [0, 3] [] [] ⟨[(0, (.v (.sl (List.map cI.u8 a183_)), [])), (3, (.v (.sl (List.map GFile.c q185_)), []))], [], []⟩ _ (by kernel_rfl) (.cons (cspec_DrawFiles h208) .nil) ?_
    refine Wc.seq ?_
    obtain ⟨o186_, h209, h⟩ := obind h
    refine Wc.region [{}, { r := some (.v (.tup [.sl (List.map GFile.c o186_.1), .bool o186_.2]) []) }] [] [0, 3, 4, 5] [] [] ⟨[(0, (.v (.sl (List.map cI.u8 a183_)), [])), (3, (.v (.sl (List.map GFile.c q185_)), [])), (4, (.v (.sl (List.map GFile.c o186_.1)), [])), (5, (.v (.bool o186_.2), []))], [], []⟩ _ (by kernel_rfl) (.cons (cimpl_Stored h209) .nil) ?_
    refine Wc.seq ?_
    obtain ⟨r187_, h210, h⟩ := obind h
    refine Wc.region [{}, { r := some (.v (.tup [.str r187_.1, .bool r187_.2]) []) }] [] [0, 3, 4, 5, 6, 7] [] [] ⟨[(0, (.v (.sl (List.map cI.u8 a183_)), [])), (3, (.v (.sl (List.map GFile.c q185_)), [])), (4, (.v (.sl (List.map GFile.c o186_.1)), [])), (5, (.v (.bool o186_.2), [])), (6, (.v (.str r187_.1), [])), (7, (.v (.bool r187_.2), []))], [], []⟩ _ (by kernel_rfl) (.cons (cimpl_FileAt h210) .nil) ?_
    refine Wc.seq ?_
    refine Wc.seq ?_
    refine Wc.region [] [] [0, 3, 4, 5, 6, 7, 8] [] [] ⟨[(0, (.v (.sl (List.map cI.u8 a183_)), [])), (3, (.v (.sl (List.map GFile.c q185_)), [])), (4, (.v (.sl (List.map GFile.c o186_.1)), [])), (5, (.v (.bool o186_.2), [])), (6, (.v (.str r187_.1), [])), (7, (.v (.bool r187_.2), [])), (8, (.v (.int .i64 0), []))], [], []⟩ _ (by kernel_rfl) .nil ?_
    obtain ⟨out1, h211, h⟩ := obind h
    refine Wc.lastJ (fun st => out1 = .done () ∧ st = ⟨[(0, (.v (.sl (List.map cI.u8 a183_)), [])), (4, (.v (.sl (List.map GFile.c o186_.1)), [])), (5, (.v (.bool o186_.2), [])), (6, (.v (.str r187_.1), [])), (7, (.v (.bool r187_.2), []))], [], []⟩) ?_ ?_
    · refine Wc.block ?_
      refine Wc.loop (fun m st => ∃ (b188_ : Int), st = ⟨[(0, (.v (.sl (List.map cI.u8 a183_)), [])), (3, (.v (.sl (List.map GFile.c q185_)), [])), (4, (.v (.sl (List.map GFile.c o186_.1)), [])), (5, (.v (.bool o186_.2), [])), (6, (.v (.str r187_.1), [])), (7, (.v (.bool r187_.2), [])), (8, (.v (.int .i64 b188_), []))], [], []⟩ ∧ plaws_FnFiles_L1 k q185_ o186_ m b188_ = some out1) ?_ k ⟨_, rfl, h211⟩
      rintro m st ⟨b188_, rfl, h211⟩
      cases m with
      | zero => exact (onone h211).elim
      | succ m =>
        refine Wc.seq ?_
        refine Wc.seq ?_
        rcases oif h211 with ⟨h212, h211⟩ | ⟨h212, h211⟩
        · refine Wc.region [{}, {}, { v := some (.int .i64 (q185_.length : Int)) }, {}, { re := some (.bool true) }] [] [0, 3, 4, 5, 6, 7, 8, 44] [] [] ⟨[(0, (.v (.sl (List.map cI.u8 a183_)), [])), (3, (.v (.sl (List.map GFile.c q185_)), [])), (4, (.v (.sl (List.map GFile.c o186_.1)), [])), (5, (.v (.bool o186_.2), [])), (6, (.v (.str r187_.1), [])), (7, (.v (.bool r187_.2), [])), (8, (.v (.int .i64 b188_), [])), (44, (.v (.bool o186_.2), []))], [], []⟩ _ (by kernel_rfl) (.cons (len_obl GFile.c q185_) (.cons (congrArg AV.bool h212) .nil)) ?_
          rcases oif h211 with ⟨h213, h211⟩ | ⟨h213, h211⟩
          · refine Wc.condT h213 (by kernel_rfl) ?_
            refine Wc.fix (st' := ⟨[(0, (.v (.sl (List.map cI.u8 a183_)), [])), (3, (.v (.sl (List.map GFile.c q185_)), [])), (4, (.v (.sl (List.map GFile.c o186_.1)), [])), (5, (.v (.bool o186_.2), [])), (6, (.v (.str r187_.1), [])), (7, (.v (.bool r187_.2), [])), (8, (.v (.int .i64 b188_), []))], [], []⟩) [] [0, 3, 4, 5, 6, 7, 8] [] [] (by kernel_rfl) ?_
            refine Wc.skip ?_
            refine Wc.seq ?_
            refine Wc.block ?_
            refine Wc.seq ?_
            obtain ⟨f189_, h214, h211⟩ := obind h211
            obtain ⟨r190_, h215, h211⟩ := obind h211
            refine Wc.region [{}, {}, {}, { v := some (.vptr [.str f189_.gName, .str f189_.gText]) }, {}, {}, { r := some (.v (.tup [.str r190_.1, .bool r190_.2]) []) }] [] [0, 3, 4, 5, 6, 7, 8, 9, 10] [] [] ⟨[(0, (.v (.sl (List.map cI.u8 a183_)), [])), (3, (.v (.sl (List.map GFile.c q185_)), [])), (4, (.v (.sl (List.map GFile.c o186_.1)), [])), (5, (.v (.bool o186_.2), [])), (6, (.v (.str r187_.1), [])), (7, (.v (.bool r187_.2), [])), (8, (.v (.int .i64 b188_), [])), (9, (.v (.str r190_.1), [])), (10, (.v (.bool r190_.2), []))], [], []⟩ _ (by kernel_rfl) (.cons (at_obl (c := GFile.c) (GFile.c_eq f189_) GFile.c_len h214) (.cons (len_ok 1 [.str f189_.gName, .str f189_.gText]) (.cons (cimpl_FileAt h215) .nil))) ?_
            refine Wc.seq ?_
            rcases oif h211 with ⟨h216, h211⟩ | ⟨h216, h211⟩
            · refine Wc.region [{}, {}, { re := some (.bool true) }] [] [0, 3, 4, 5, 6, 7, 8, 67] [] [] ⟨[(0, (.v (.sl (List.map cI.u8 a183_)), [])), (3, (.v (.sl (List.map GFile.c q185_)), [])), (4, (.v (.sl (List.map GFile.c o186_.1)), [])), (5, (.v (.bool o186_.2), [])), (6, (.v (.str r187_.1), [])), (7, (.v (.bool r187_.2), [])), (8, (.v (.int .i64 b188_), [])), (67, (.v (.bool true), []))], [], []⟩ _ (by kernel_rfl) (.cons (congrArg AV.bool h216) .nil) ?_
              refine Wc.condT rfl (by kernel_rfl) ?_
              refine Wc.seq ?_
              refine Wc.region [] [] [2] [] [] ⟨[(2, (.v (.bool false), []))], [], []⟩ _ (by kernel_rfl) .nil ?_
              refine Wc.ret ?_
              obtain rfl := Option.some.inj h211
              obtain rfl := Option.some.inj h
              exact ⟨.inl rfl, by kernel_rfl, by kernel_rfl⟩
            · obtain ⟨f191_, h217, h211⟩ := obind h211
              refine Wc.region [{}, {}, { re := some (.bool false) }, {}, {}, {}, { v := some (.vptr [.str f191_.gName, .str f191_.gText]) }] [] [0, 3, 4, 5, 6, 7, 8, 67] [] [] ⟨[(0, (.v (.sl (List.map cI.u8 a183_)), [])), (3, (.v (.sl (List.map GFile.c q185_)), [])), (4, (.v (.sl (List.map GFile.c o186_.1)), [])), (5, (.v (.bool o186_.2), [])), (6, (.v (.str r187_.1), [])), (7, (.v (.bool r187_.2), [])), (8, (.v (.int .i64 b188_), [])), (67, (.v (.bool (!(sEq r190_.1 f191_.gText))), []))], [], []⟩ _ (by kernel_rfl) (.cons (congrArg AV.bool h216) (.cons (at_obl (c := GFile.c) (GFile.c_eq f191_) GFile.c_len h217) (.cons (len_ok 1 [.str f191_.gText]) .nil))) ?_
              rcases oif h211 with ⟨h218, h211⟩ | ⟨h218, h211⟩
              · refine Wc.condT h218 (by kernel_rfl) ?_
                refine Wc.seq ?_
                refine Wc.region [] [] [2] [] [] ⟨[(2, (.v (.bool false), []))], [], []⟩ _ (by kernel_rfl) .nil ?_
                refine Wc.ret ?_
                obtain rfl := Option.some.inj h211
                obtain rfl := Option.some.inj h
                exact ⟨.inl rfl, by kernel_rfl, by kernel_rfl⟩
              · refine Wc.condF h218 (by kernel_rfl) ?_
                refine Wc.fix (st' := ⟨[(0, (.v (.sl (List.map cI.u8 a183_)), [])), (3, (.v (.sl (List.map GFile.c q185_)), [])), (4, (.v (.sl (List.map GFile.c o186_.1)), [])), (5, (.v (.bool o186_.2), [])), (6, (.v (.str r187_.1), [])), (7, (.v (.bool r187_.2), [])), (8, (.v (.int .i64 b188_), []))], [], []⟩) [] [0, 3, 4, 5, 6, 7, 8] [] [] (by kernel_rfl) ?_
                refine Wc.skip ?_
                refine Wc.region [] [] [0, 3, 4, 5, 6, 7, 8] [] [] ⟨[(0, (.v (.sl (List.map cI.u8 a183_)), [])), (3, (.v (.sl (List.map GFile.c q185_)), [])), (4, (.v (.sl (List.map GFile.c o186_.1)), [])), (5, (.v (.bool o186_.2), [])), (6, (.v (.str r187_.1), [])), (7, (.v (.bool r187_.2), [])), (8, (.v (.int .i64 (wr.i64 (b188_ + 1))), []))], [], []⟩ _ (by kernel_rfl) .nil ?_
                exact ⟨_, Nat.lt_succ_self _, _, rfl, h211⟩
          · refine Wc.condF h213 (by kernel_rfl) ?_
            refine Wc.fix (st' := ⟨[(0, (.v (.sl (List.map cI.u8 a183_)), [])), (4, (.v (.sl (List.map GFile.c o186_.1)), [])), (5, (.v (.bool o186_.2), [])), (6, (.v (.str r187_.1), [])), (7, (.v (.bool r187_.2), []))], [], []⟩) [] [0, 4, 5, 6, 7] [] [] (by kernel_rfl) ?_
            refine Wc.exit ?_
            obtain rfl := Option.some.inj h211
            exact ⟨rfl, rfl⟩
        · refine Wc.region [{}, {}, { v := some (.int .i64 (q185_.length : Int)) }, {}, { re := some (.bool false) }] [] [0, 3, 4, 5, 6, 7, 8, 44] [] [] ⟨[(0, (.v (.sl (List.map cI.u8 a183_)), [])), (3, (.v (.sl (List.map GFile.c q185_)), [])), (4, (.v (.sl (List.map GFile.c o186_.1)), [])), (5, (.v (.bool o186_.2), [])), (6, (.v (.str r187_.1), [])), (7, (.v (.bool r187_.2), [])), (8, (.v (.int .i64 b188_), [])), (44, (.v (.bool false), []))], [], []⟩ _ (by kernel_rfl) (.cons (len_obl GFile.c q185_) (.cons (congrArg AV.bool h212) .nil)) ?_
          refine Wc.condF rfl (by kernel_rfl) ?_
          refine Wc.fix (st' := ⟨[(0, (.v (.sl (List.map cI.u8 a183_)), [])), (4, (.v (.sl (List.map GFile.c o186_.1)), [])), (5, (.v (.bool o186_.2), [])), (6, (.v (.str r187_.1), [])), (7, (.v (.bool r187_.2), []))], [], []⟩) [] [0, 4, 5, 6, 7] [] [] (by kernel_rfl) ?_
          refine Wc.exit ?_
          obtain rfl := Option.some.inj h211
          exact ⟨rfl, rfl⟩
    · rintro st ⟨rfl, rfl⟩
      refine Wc.seq ?_
      obtain ⟨s192_, h219, h⟩ := obind h
      refine Wc.region [{}, { r := some (.v (.tup [.sl (List.map GFile.c s192_.1), .str s192_.2.1, .str s192_.2.2]) [(0, .app 31)]) }, { tk := [70] }, { tk := [68] }, {}, {}, { tk := [71] }] [] [0, 4, 5, 6, 7, 11, 12, 13] [] [] ⟨[(0, (.v (.sl (List.map cI.u8 a183_)), [])), (4, (.v (.sl (List.map GFile.c o186_.1)), [])), (5, (.v (.bool o186_.2), [])), (6, (.v (.str r187_.1), [])), (7, (.v (.bool r187_.2), [])), (11, (.v (.sl (List.map GFile.c s192_.1)), [(0, .app 31)])), (12, (.v (.str s192_.2.1), [])), (13, (.v (.str s192_.2.2), []))], [], []⟩ _ (by kernel_rfl) (.cons (cspec_DrawStored h219) .nil) ?_
      refine Wc.seq ?_
      obtain ⟨o193_, h220, h⟩ := obind h
      refine Wc.region [{}, {}, {}, { r := some (.v (.tup [.sl (List.map GFile.c o193_.1), .bool o193_.2]) []) }] [] [0, 4, 5, 6, 7, 11, 12, 13, 14, 15] [] [] ⟨[(0, (.v (.sl (List.map cI.u8 a183_)), [])), (4, (.v (.sl (List.map GFile.c o186_.1)), [])), (5, (.v (.bool o186_.2), [])), (6, (.v (.str r187_.1), [])), (7, (.v (.bool r187_.2), [])), (11, (.v (.sl (List.map GFile.c s192_.1)), [(0, .app 31)])), (12, (.v (.str s192_.2.1), [])), (13, (.v (.str s192_.2.2), [])), (14, (.v (.sl (List.map GFile.c o193_.1)), [])), (15, (.v (.bool o193_.2), []))], [], []⟩ _ (by kernel_rfl) (.cons (cimpl_Stored h220) .nil) ?_
      refine Wc.seq ?_
      obtain ⟨o194_, h221, h⟩ := obind h
      refine Wc.region [{}, {}, {}, { r := some (.v (.tup [.sl (List.map GFile.c o194_.1), .bool o194_.2]) [(0, .app 31)]) }, { tk := [85] }, { tk := [81] }, {}, { tk := [86] }] [] [0, 4, 5, 6, 7, 11, 14, 15, 16, 17] [] [] ⟨[(0, (.v (.sl (List.map cI.u8 a183_)), [])), (4, (.v (.sl (List.map GFile.c o186_.1)), [])), (5, (.v (.bool o186_.2), [])), (6, (.v (.str r187_.1), [])), (7, (.v (.bool r187_.2), [])), (11, (.v (.sl (List.map GFile.c s192_.1)), [(0, .app 31)])), (14, (.v (.sl (List.map GFile.c o193_.1)), [])), (15, (.v (.bool o193_.2), [])), (16, (.v (.sl (List.map GFile.c o194_.1)), [(0, .app 31)])), (17, (.v (.bool o194_.2), []))], [], []⟩ _ (by kernel_rfl) (.cons (cspec_Stored h221) .nil) ?_
      refine Wc.seq ?_
      obtain ⟨t195_, h222, h⟩ := obind h
      refine Wc.region [{}, { r := some (.v (.tup [.sl (List.map GFile.c t195_.1), .str t195_.2]) [(0, .app 31)]) }, { tk := [90] }, { tk := [88] }, {}, { tk := [91] }] [] [4, 5, 6, 7, 11, 14, 15, 16, 17, 18, 19] [] [] ⟨[(4, (.v (.sl (List.map GFile.c o186_.1)), [])), (5, (.v (.bool o186_.2), [])), (6, (.v (.str r187_.1), [])), (7, (.v (.bool r187_.2), [])), (11, (.v (.sl (List.map GFile.c s192_.1)), [(0, .app 31)])), (14, (.v (.sl (List.map GFile.c o193_.1)), [])), (15, (.v (.bool o193_.2), [])), (16, (.v (.sl (List.map GFile.c o194_.1)), [(0, .app 31)])), (17, (.v (.bool o194_.2), [])), (18, (.v (.sl (List.map GFile.c t195_.1)), [(0, .app 31)])), (19, (.v (.str t195_.2), []))], [], []⟩ _ (by kernel_rfl) (.cons (cspec_DrawFileAt h222) .nil) ?_
      refine Wc.seq ?_
      obtain ⟨r196_, h223, h⟩ := obind h
      refine Wc.region [{}, {}, { r := some (.v (.tup [.str r196_.1, .bool r196_.2]) []) }] [] [4, 5, 6, 7, 11, 14, 15, 16, 17, 18, 19, 20, 21] [] [] ⟨[(4, (.v (.sl (List.map GFile.c o186_.1)), [])), (5, (.v (.bool o186_.2), [])), (6, (.v (.str r187_.1), [])), (7, (.v (.bool r187_.2), [])), (11, (.v (.sl (List.map GFile.c s192_.1)), [(0, .app 31)])), (14, (.v (.sl (List.map GFile.c o193_.1)), [])), (15, (.v (.bool o193_.2), [])), (16, (.v (.sl (List.map GFile.c o194_.1)), [(0, .app 31)])), (17, (.v (.bool o194_.2), [])), (18, (.v (.sl (List.map GFile.c t195_.1)), [(0, .app 31)])), (19, (.v (.str t195_.2), [])), (20, (.v (.str r196_.1), [])), (21, (.v (.bool r196_.2), []))], [], []⟩ _ (by kernel_rfl) (.cons (cimpl_FileAt h223) .nil) ?_
      refine Wc.seq ?_
      obtain ⟨r197_, h224, h⟩ := obind h
      refine Wc.region [{ tk := [18] }, {}, { r := some (.v (.tup [.str r197_.1, .bool r197_.2]) []) }] [] [4, 5, 6, 7, 11, 14, 15, 16, 17, 20, 21, 22, 23] [] [] ⟨[(4, (.v (.sl (List.map GFile.c o186_.1)), [])), (5, (.v (.bool o186_.2), [])), (6, (.v (.str r187_.1), [])), (7, (.v (.bool r187_.2), [])), (11, (.v (.sl (List.map GFile.c s192_.1)), [(0, .app 31)])), (14, (.v (.sl (List.map GFile.c o193_.1)), [])), (15, (.v (.bool o193_.2), [])), (16, (.v (.sl (List.map GFile.c o194_.1)), [(0, .app 31)])), (17, (.v (.bool o194_.2), [])), (20, (.v (.str r196_.1), [])), (21, (.v (.bool r196_.2), [])), (22, (.v (.str r197_.1), [])), (23, (.v (.bool r197_.2), []))], [], []⟩ _ (by kernel_rfl) (.cons (cspec_FileAt h224) .nil) ?_
      refine Wc.seq ?_
      rcases oif h with ⟨h225, h⟩ | ⟨h225, h⟩
      · rcases oif h with ⟨h226, h⟩ | ⟨h226, h⟩
        · rcases oif h with ⟨h227, h⟩ | ⟨h227, h⟩
          · obtain ⟨d198_, h228, h⟩ := obind h
            rcases oif h with ⟨h229, h⟩ | ⟨h229, h⟩
            · rcases oif h with ⟨h230, h⟩ | ⟨h230, h⟩
              · obtain ⟨d199_, h231, h⟩ := obind h
                rcases oif h with ⟨h232, h⟩ | ⟨h232, h⟩
                · rcases oif h with ⟨h233, h⟩ | ⟨h233, h⟩
                  · rcases oif h with ⟨h234, h⟩ | ⟨h234, h⟩
                    · obtain ⟨d200_, h235, h⟩ := obind h
                      obtain ⟨d201_, h236, h⟩ := obind h
                      refine Wc.region [{}, { re := some (.bool true) }, {}, {}, { re := some (.bool true) }, {}, {}, {}, { re := some (.bool true) }, {}, { r := some (.v (.bool d198_) []) }, {}, { re := some (.bool true) }, {}, {}, {}, {}, { re := some (.bool true) }, {}, { tk := [16] }, { r := some (.v (.bool d199_) []) }, {}, { re := some (.bool true) }, {}, {}, {}, {}, { re := some (.bool true) }, {}, {}, {}, {}, { re := some (.bool true) }, {}, { r := some (.v (.bool d200_) []) }, { tk := [11] }, { r := some (.v (.bool d201_) []) }] [] [2] [] [] ⟨[(2, (.v (.bool (d200_ == d201_)), []))], [], []⟩ _ (by kernel_rfl) (.cons (congrArg AV.bool h225) (.cons (congrArg AV.bool h226) (.cons (congrArg AV.bool h227) (.cons (cimpl_FilesOk h228) (.cons (congrArg AV.bool h229) (.cons (congrArg AV.bool h230) (.cons (claws_sameFiles h231) (.cons (congrArg AV.bool h232) (.cons (congrArg AV.bool h233) (.cons (congrArg AV.bool h234) (.cons (cimpl_FilesOk h235) (.cons (cspec_FilesOk h236) .nil)))))))))))) ?_
                      refine Wc.ret ?_
                      obtain rfl := Option.some.inj h
                      exact ⟨.inl rfl, by kernel_rfl, by kernel_rfl⟩
                    · refine Wc.region [{}, { re := some (.bool true) }, {}, {}, { re := some (.bool true) }, {}, {}, {}, { re := some (.bool true) }, {}, { r := some (.v (.bool d198_) []) }, {}, { re := some (.bool true) }, {}, {}, {}, {}, { re := some (.bool true) }, {}, { tk := [16] }, { r := some (.v (.bool d199_) []) }, {}, { re := some (.bool true) }, {}, {}, {}, {}, { re := some (.bool true) }, {}, {}, {}, {}, { re := some (.bool false) }] [] [2] [] [] ⟨[(2, (.v (.bool false), []))], [], []⟩ _ (by kernel_rfl) (.cons (congrArg AV.bool h225) (.cons (congrArg AV.bool h226) (.cons (congrArg AV.bool h227) (.cons (cimpl_FilesOk h228) (.cons (congrArg AV.bool h229) (.cons (congrArg AV.bool h230) (.cons (claws_sameFiles h231) (.cons (congrArg AV.bool h232) (.cons (congrArg AV.bool h233) (.cons (congrArg AV.bool h234) .nil)))))))))) ?_
                      refine Wc.ret ?_
                      obtain rfl := Option.some.inj h
                      exact ⟨.inl rfl, by kernel_rfl, by kernel_rfl⟩
                  · refine Wc.region [{}, { re := some (.bool true) }, {}, {}, { re := some (.bool true) }, {}, {}, {}, { re := some (.bool true) }, {}, { r := some (.v (.bool d198_) []) }, {}, { re := some (.bool true) }, {}, {}, {}, {}, { re := some (.bool true) }, {}, { tk := [16] }, { r := some (.v (.bool d199_) []) }, {}, { re := some (.bool true) }, {}, {}, {}, {}, { re := some (.bool false) }] [] [2] [] [] ⟨[(2, (.v (.bool false), []))], [], []⟩ _ (by kernel_rfl) (.cons (congrArg AV.bool h225) (.cons (congrArg AV.bool h226) (.cons (congrArg AV.bool h227) (.cons (cimpl_FilesOk h228) (.cons (congrArg AV.bool h229) (.cons (congrArg AV.bool h230) (.cons (claws_sameFiles h231) (.cons (congrArg AV.bool h232) (.cons (congrArg AV.bool h233) .nil))))))))) ?_
                    refine Wc.ret ?_
                    obtain rfl := Option.some.inj h
                    exact ⟨.inl rfl, by kernel_rfl, by kernel_rfl⟩
                · refine Wc.region [{}, { re := some (.bool true) }, {}, {}, { re := some (.bool true) }, {}, {}, {}, { re := some (.bool true) }, {}, { r := some (.v (.bool d198_) []) }, {}, { re := some (.bool true) }, {}, {}, {}, {}, { re := some (.bool true) }, {}, { tk := [16] }, { r := some (.v (.bool d199_) []) }, {}, { re := some (.bool false) }] [] [2] [] [] ⟨[(2, (.v (.bool false), []))], [], []⟩ _ (by kernel_rfl) (.cons (congrArg AV.bool h225) (.cons (congrArg AV.bool h226) (.cons (congrArg AV.bool h227) (.cons (cimpl_FilesOk h228) (.cons (congrArg AV.bool h229) (.cons (congrArg AV.bool h230) (.cons (claws_sameFiles h231) (.cons (congrArg AV.bool h232) .nil)))))))) ?_
                  refine Wc.ret ?_
                  obtain rfl := Option.some.inj h
                  exact ⟨.inl rfl, by kernel_rfl, by kernel_rfl⟩
              · refine Wc.region [{}, { re := some (.bool true) }, {}, {}, { re := some (.bool true) }, {}, {}, {}, { re := some (.bool true) }, {}, { r := some (.v (.bool d198_) []) }, {}, { re := some (.bool true) }, {}, {}, {}, {}, { re := some (.bool false) }] [] [2] [] [] ⟨[(2, (.v (.bool false), []))], [], []⟩ _ (by kernel_rfl) (.cons (congrArg AV.bool h225) (.cons (congrArg AV.bool h226) (.cons (congrArg AV.bool h227) (.cons (cimpl_FilesOk h228) (.cons (congrArg AV.bool h229) (.cons (congrArg AV.bool h230) .nil)))))) ?_
                refine Wc.ret ?_
                obtain rfl := Option.some.inj h
                exact ⟨.inl rfl, by kernel_rfl, by kernel_rfl⟩
            · refine Wc.region [{}, { re := some (.bool true) }, {}, {}, { re := some (.bool true) }, {}, {}, {}, { re := some (.bool true) }, {}, { r := some (.v (.bool d198_) []) }, {}, { re := some (.bool false) }] [] [2] [] [] ⟨[(2, (.v (.bool false), []))], [], []⟩ _ (by kernel_rfl) (.cons (congrArg AV.bool h225) (.cons (congrArg AV.bool h226) (.cons (congrArg AV.bool h227) (.cons (cimpl_FilesOk h228) (.cons (congrArg AV.bool h229) .nil))))) ?_
              refine Wc.ret ?_
              obtain rfl := Option.some.inj h
              exact ⟨.inl rfl, by kernel_rfl, by kernel_rfl⟩
          · refine Wc.region [{}, { re := some (.bool true) }, {}, {}, { re := some (.bool true) }, {}, {}, {}, { re := some (.bool false) }] [] [2] [] [] ⟨[(2, (.v (.bool false), []))], [], []⟩ _ (by kernel_rfl) (.cons (congrArg AV.bool h225) (.cons (congrArg AV.bool h226) (.cons (congrArg AV.bool h227) .nil))) ?_
            refine Wc.ret ?_
            obtain rfl := Option.some.inj h
            exact ⟨.inl rfl, by kernel_rfl, by kernel_rfl⟩
        · refine Wc.region [{}, { re := some (.bool true) }, {}, {}, { re := some (.bool false) }] [] [2] [] [] ⟨[(2, (.v (.bool false), []))], [], []⟩ _ (by kernel_rfl) (.cons (congrArg AV.bool h225) (.cons (congrArg AV.bool h226) .nil)) ?_
          refine Wc.ret ?_
          obtain rfl := Option.some.inj h
          exact ⟨.inl rfl, by kernel_rfl, by kernel_rfl⟩
      · refine Wc.region [{}, { re := some (.bool false) }] [] [2] [] [] ⟨[(2, (.v (.bool false), []))], [], []⟩ _ (by kernel_rfl) (.cons (congrArg AV.bool h225) .nil) ?_
        refine Wc.ret ?_
        obtain rfl := Option.some.inj h
        exact ⟨.inl rfl, by kernel_rfl, by kernel_rfl⟩
end Go.Proofs.Ythemaodhckmnkaa

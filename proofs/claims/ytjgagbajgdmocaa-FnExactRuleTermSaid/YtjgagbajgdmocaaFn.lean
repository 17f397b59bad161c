/- What the functions do. -/
import Derived.Test.YtjgagbajgdmocaaTy
set_option linter.unusedVariables false
set_option linter.unusedSimpArgs false
namespace Go.Proofs.Ytjgagbajgdmocaa
open Go.RowKit Go.Bv
/-- laws.szPart -/
def plaws_szPart (k : Nat) (a1_ : GPart) (b2_ : Int) : Option Int :=
  if (decide ((wr.i64 (b2_ - (a1_.gName.size : Int))) < 0)) = true then
    some (-1)
  else
    some (wr.i64 (b2_ - (a1_.gName.size : Int)))
theorem claws_szPart {k : Nat} {a1_ : GPart} {b2_ : Int} {r : Int} (h : plaws_szPart k a1_ b2_ = some r) : FnO Try.prog 88 [.v (.agg [.bool a1_.gWord, .str a1_.gName]) [], .v (.int .i64 b2_) []] (.v (.int .i64 r) []) [] := by
  refine FnO.of Try.func88 (rfl : Try.f88.body = some _) (Nat.le_of_ble_eq_true (by kernel_rfl)) (Nat.le_of_ble_eq_true (by kernel_rfl)) ?_
  intro w0 X0 Fin pv0 pb
  unfold plaws_szPart at h
  refine Wc.seq ?_
  refine Wc.region [] [] [1, 2] [2] [] ⟨[(1, (.v (.int .i64 b2_), [])), (2, (.ptr 2 0, []))], [(2, .cells [.bool a1_.gWord, .str a1_.gName] [])], []⟩ _ (by kernel_rfl) .nil ?_
  refine Wc.seq ?_
  refine Wc.region [] [] [1] [] [] ⟨[(1, (.v (.int .i64 (wr.i64 (b2_ - (a1_.gName.size : Int)))), []))], [], []⟩ _ (by kernel_rfl) .nil ?_
  refine Wc.seq ?_
  refine Wc.seq ?_
  refine Wc.region [] [] [1, 11] [] [] ⟨[(1, (.v (.int .i64 (wr.i64 (b2_ - (a1_.gName.size : Int)))), [])), (11, (.v (.bool (decide ((wr.i64 (b2_ - (a1_.gName.size : Int))) < 0))), []))], [], []⟩ _ (by kernel_rfl) .nil ?_
  rcases oif h with ⟨h1, h⟩ | ⟨h1, h⟩
  · refine Wc.condT h1 (by kernel_rfl) ?_
    refine Wc.seq ?_
    refine Wc.region [] [] [4] [] [] ⟨[(4, (.v (.int .i64 (-1)), []))], [], []⟩ _ (by kernel_rfl) .nil ?_
    refine Wc.ret ?_
    obtain rfl := Option.some.inj h
    exact ⟨.inl rfl, by kernel_rfl, by kernel_rfl⟩
  · refine Wc.condF h1 (by kernel_rfl) ?_
    refine Wc.fix (st' := ⟨[(1, (.v (.int .i64 (wr.i64 (b2_ - (a1_.gName.size : Int)))), []))], [], []⟩) [] [1] [] [] (by kernel_rfl) ?_
    refine Wc.skip ?_
    refine Wc.seq ?_
    refine Wc.region [] [] [4] [] [] ⟨[(4, (.v (.int .i64 (wr.i64 (b2_ - (a1_.gName.size : Int)))), []))], [], []⟩ _ (by kernel_rfl) .nil ?_
    refine Wc.ret ?_
    obtain rfl := Option.some.inj h
    exact ⟨.inl rfl, by kernel_rfl, by kernel_rfl⟩

def plaws_szPartS_L1 (k : Nat) (c3_ : List GPart) : Nat → Int → Int → Option (Out Int Int)
  | 0, _, _ => none
  | m + 1, b5_, b6_ =>
    if (decide (b6_ < (c3_.length : Int))) = true then
      (at' c3_ b6_).bind fun a8_ =>
      (plaws_szPart k a8_ b5_).bind fun b9_ =>
      if (decide (b9_ < 0)) = true then
        some (.ret (-1))
      else
        plaws_szPartS_L1 k c3_ m b9_ (wr.i64 (b6_ + 1))
    else
      some (.done b5_)
/-- laws.szPartS -/
def plaws_szPartS (k : Nat) (c3_ : List GPart) (b4_ : Int) : Option Int :=
  if (decide ((wr.i64 (b4_ - (c3_.length : Int))) < 0)) = true then
    some (-1)
  else
    (plaws_szPartS_L1 k c3_ k (wr.i64 (b4_ - (c3_.length : Int))) 0).bind fun out1 => match out1 with
    | .ret r => some r
    | .done b7_ =>
      some b7_
theorem claws_szPartS {k : Nat} {c3_ : List GPart} {b4_ : Int} {r : Int} (h : plaws_szPartS k c3_ b4_ = some r) : FnO Try.prog 55 [.v (.sl (List.map GPart.c c3_)) [], .v (.int .i64 b4_) []] (.v (.int .i64 r) []) [] := by
  refine FnO.of Try.func55 (rfl : Try.f55.body = some _) (Nat.le_of_ble_eq_true (by kernel_rfl)) (Nat.le_of_ble_eq_true (by kernel_rfl)) ?_
  intro w0 X0 Fin pv0 pb
  unfold plaws_szPartS at h
  refine Wc.seq ?_
  refine Wc.region [] [] [0, 1] [] [] ⟨[(0, (.v (.sl (List.map GPart.c c3_)), [])), (1, (.v (.int .i64 b4_), []))], [], []⟩ _ (by kernel_rfl) .nil ?_
  refine Wc.seq ?_
  refine Wc.region [{}, {}, { v := some (.int .i64 (c3_.length : Int)) }] [] [0, 1] [] [] ⟨[(0, (.v (.sl (List.map GPart.c c3_)), [])), (1, (.v (.int .i64 (wr.i64 (b4_ - (c3_.length : Int)))), []))], [], []⟩ _ (by kernel_rfl) (.cons (len_obl GPart.c c3_) .nil) ?_
  refine Wc.seq ?_
  refine Wc.seq ?_
  refine Wc.region [] [] [0, 1, 11] [] [] ⟨[(0, (.v (.sl (List.map GPart.c c3_)), [])), (1, (.v (.int .i64 (wr.i64 (b4_ - (c3_.length : Int)))), [])), (11, (.v (.bool (decide ((wr.i64 (b4_ - (c3_.length : Int))) < 0))), []))], [], []⟩ _ (by kernel_rfl) .nil ?_
  rcases oif h with ⟨h2, h⟩ | ⟨h2, h⟩
  · refine Wc.condT h2 (by kernel_rfl) ?_
    refine Wc.seq ?_
    refine Wc.region [] [] [4] [] [] ⟨[(4, (.v (.int .i64 (-1)), []))], [], []⟩ _ (by kernel_rfl) .nil ?_
    refine Wc.ret ?_
    obtain rfl := Option.some.inj h
    exact ⟨.inl rfl, by kernel_rfl, by kernel_rfl⟩
  · refine Wc.condF h2 (by kernel_rfl) ?_
    refine Wc.fix (st' := ⟨[(0, (.v (.sl (List.map GPart.c c3_)), [])), (1, (.v (.int .i64 (wr.i64 (b4_ - (c3_.length : Int)))), []))], [], []⟩) [] [0, 1] [] [] (by kernel_rfl) ?_
    refine Wc.skip ?_
    refine Wc.seq ?_
    refine Wc.seq ?_
    refine Wc.region [] [] [0, 1, 5] [] [] ⟨[(0, (.v (.sl (List.map GPart.c c3_)), [])), (1, (.v (.int .i64 (wr.i64 (b4_ - (c3_.length : Int)))), [])), (5, (.v (.int .i64 0), []))], [], []⟩ _ (by kernel_rfl) .nil ?_
    obtain ⟨out1, h3, h⟩ := obind h
    refine Wc.lastJ (fun st => ∃ (b7_ : Int), out1 = .done b7_ ∧ st = ⟨[(1, (.v (.int .i64 b7_), []))], [], []⟩) ?_ ?_
    · refine Wc.block ?_
      refine Wc.loop (fun m st => ∃ (b5_ : Int) (b6_ : Int), st = ⟨[(0, (.v (.sl (List.map GPart.c c3_)), [])), (1, (.v (.int .i64 b5_), [])), (5, (.v (.int .i64 b6_), []))], [], []⟩ ∧ plaws_szPartS_L1 k c3_ m b5_ b6_ = some out1) ?_ k ⟨_, _, rfl, h3⟩
      rintro m st ⟨b5_, b6_, rfl, h3⟩
      cases m with
      | zero => exact (onone h3).elim
      | succ m =>
        refine Wc.seq ?_
        refine Wc.seq ?_
        refine Wc.region [{}, {}, { v := some (.int .i64 (c3_.length : Int)) }] [] [0, 1, 5, 15] [] [] ⟨[(0, (.v (.sl (List.map GPart.c c3_)), [])), (1, (.v (.int .i64 b5_), [])), (5, (.v (.int .i64 b6_), [])), (15, (.v (.bool (decide (b6_ < (c3_.length : Int)))), []))], [], []⟩ _ (by kernel_rfl) (.cons (len_obl GPart.c c3_) .nil) ?_
        rcases oif h3 with ⟨h4, h3⟩ | ⟨h4, h3⟩
        · refine Wc.condT h4 (by kernel_rfl) ?_
          refine Wc.fix (st' := ⟨[(0, (.v (.sl (List.map GPart.c c3_)), [])), (1, (.v (.int .i64 b5_), [])), (5, (.v (.int .i64 b6_), []))], [], []⟩) [] [0, 1, 5] [] [] (by kernel_rfl) ?_
          refine Wc.skip ?_
          refine Wc.seq ?_
          refine Wc.block ?_
          refine Wc.seq ?_
          obtain ⟨a8_, h5, h3⟩ := obind h3
          obtain ⟨b9_, h6, h3⟩ := obind h3
          refine Wc.region [{}, {}, { v := some (.vptr [.bool a8_.gWord, .str a8_.gName]) }, {}, {}, { r := some (.v (.int .i64 b9_) []) }] [] [0, 1, 5] [] [] ⟨[(0, (.v (.sl (List.map GPart.c c3_)), [])), (1, (.v (.int .i64 b9_), [])), (5, (.v (.int .i64 b6_), []))], [], []⟩ _ (by kernel_rfl) (.cons (at_obl (c := GPart.c) (GPart.c_eq a8_) GPart.c_len h5) (.cons (len_ok 2 [.bool a8_.gWord, .str a8_.gName]) (.cons (claws_szPart h6) .nil))) ?_
          refine Wc.seq ?_
          refine Wc.region [] [] [0, 1, 5, 25] [] [] ⟨[(0, (.v (.sl (List.map GPart.c c3_)), [])), (1, (.v (.int .i64 b9_), [])), (5, (.v (.int .i64 b6_), [])), (25, (.v (.bool (decide (b9_ < 0))), []))], [], []⟩ _ (by kernel_rfl) .nil ?_
          rcases oif h3 with ⟨h7, h3⟩ | ⟨h7, h3⟩
          · refine Wc.condT h7 (by kernel_rfl) ?_
            refine Wc.seq ?_
            refine Wc.region [] [] [4] [] [] ⟨[(4, (.v (.int .i64 (-1)), []))], [], []⟩ _ (by kernel_rfl) .nil ?_
            refine Wc.ret ?_
            obtain rfl := Option.some.inj h3
            obtain rfl := Option.some.inj h
            exact ⟨.inl rfl, by kernel_rfl, by kernel_rfl⟩
          · refine Wc.condF h7 (by kernel_rfl) ?_
            refine Wc.fix (st' := ⟨[(0, (.v (.sl (List.map GPart.c c3_)), [])), (1, (.v (.int .i64 b9_), [])), (5, (.v (.int .i64 b6_), []))], [], []⟩) [] [0, 1, 5] [] [] (by kernel_rfl) ?_
            refine Wc.skip ?_
            refine Wc.region [] [] [0, 1, 5] [] [] ⟨[(0, (.v (.sl (List.map GPart.c c3_)), [])), (1, (.v (.int .i64 b9_), [])), (5, (.v (.int .i64 (wr.i64 (b6_ + 1))), []))], [], []⟩ _ (by kernel_rfl) .nil ?_
            exact ⟨_, Nat.lt_succ_self _, _, _, rfl, h3⟩
        · refine Wc.condF h4 (by kernel_rfl) ?_
          refine Wc.fix (st' := ⟨[(1, (.v (.int .i64 b5_), []))], [], []⟩) [] [1] [] [] (by kernel_rfl) ?_
          refine Wc.exit ?_
          obtain rfl := Option.some.inj h3
          exact ⟨_, rfl, rfl⟩
    · rintro st ⟨b7_, rfl, rfl⟩
      refine Wc.seq ?_
      refine Wc.region [] [] [4] [] [] ⟨[(4, (.v (.int .i64 b7_), []))], [], []⟩ _ (by kernel_rfl) .nil ?_
      refine Wc.ret ?_
      obtain rfl := Option.some.inj h
      exact ⟨.inl rfl, by kernel_rfl, by kernel_rfl⟩

/-- laws.szRule -/
def plaws_szRule (k : Nat) (d10_ : GRule) (b11_ : Int) : Option Int :=
  if (decide ((wr.i64 (b11_ - (d10_.gName.size : Int))) < 0)) = true then
    some (-1)
  else
    (plaws_szPartS k d10_.gParts (wr.i64 (b11_ - (d10_.gName.size : Int)))).bind fun b12_ =>
    if (decide (b12_ < 0)) = true then
      some (-1)
    else
      some b12_
theorem claws_szRule {k : Nat} {d10_ : GRule} {b11_ : Int} {r : Int} (h : plaws_szRule k d10_ b11_ = some r) : FnO Try.prog 14 [.v (.agg [.str d10_.gName, .sl (List.map GPart.c d10_.gParts)]) [], .v (.int .i64 b11_) []] (.v (.int .i64 r) []) [] := by
  refine FnO.of Try.func14 (rfl : Try.f14.body = some _) (Nat.le_of_ble_eq_true (by kernel_rfl)) (Nat.le_of_ble_eq_true (by kernel_rfl)) ?_
  intro w0 X0 Fin pv0 pb
  unfold plaws_szRule at h
  refine Wc.seq ?_
  refine Wc.region [] [] [1, 2] [2] [] ⟨[(1, (.v (.int .i64 b11_), [])), (2, (.ptr 2 0, []))], [(2, .cells [.str d10_.gName, .sl (List.map GPart.c d10_.gParts)] [])], []⟩ _ (by kernel_rfl) .nil ?_
  refine Wc.seq ?_
  refine Wc.region [] [] [1, 2] [2] [] ⟨[(1, (.v (.int .i64 (wr.i64 (b11_ - (d10_.gName.size : Int)))), [])), (2, (.ptr 2 0, []))], [(2, .cells [.str d10_.gName, .sl (List.map GPart.c d10_.gParts)] [])], []⟩ _ (by kernel_rfl) .nil ?_
  refine Wc.seq ?_
  refine Wc.seq ?_
  refine Wc.region [] [] [1, 2, 11] [2] [] ⟨[(1, (.v (.int .i64 (wr.i64 (b11_ - (d10_.gName.size : Int)))), [])), (2, (.ptr 2 0, [])), (11, (.v (.bool (decide ((wr.i64 (b11_ - (d10_.gName.size : Int))) < 0))), []))], [(2, .cells [.str d10_.gName, .sl (List.map GPart.c d10_.gParts)] [])], []⟩ _ (by kernel_rfl) .nil ?_
  rcases oif h with ⟨h8, h⟩ | ⟨h8, h⟩
  · refine Wc.condT h8 (by kernel_rfl) ?_
    refine Wc.seq ?_
    refine Wc.region [] [] [4] [] [] ⟨[(4, (.v (.int .i64 (-1)), []))], [], []⟩ _ (by kernel_rfl) .nil ?_
    refine Wc.ret ?_
    obtain rfl := Option.some.inj h
    exact ⟨.inl rfl, by kernel_rfl, by kernel_rfl⟩
  · refine Wc.condF h8 (by kernel_rfl) ?_
    refine Wc.fix (st' := ⟨[(1, (.v (.int .i64 (wr.i64 (b11_ - (d10_.gName.size : Int)))), [])), (2, (.ptr 2 0, []))], [(2, .cells [.str d10_.gName, .sl (List.map GPart.c d10_.gParts)] [])], []⟩) [] [1, 2] [2] [] (by kernel_rfl) ?_
    refine Wc.skip ?_
    refine Wc.seq ?_
    obtain ⟨b12_, h9, h⟩ := obind h
    refine Wc.region [{}, {}, {}, { r := some (.v (.int .i64 b12_) []) }] [] [1] [] [] ⟨[(1, (.v (.int .i64 b12_), []))], [], []⟩ _ (by kernel_rfl) (.cons (claws_szPartS h9) .nil) ?_
    refine Wc.seq ?_
    refine Wc.seq ?_
    refine Wc.region [] [] [1, 17] [] [] ⟨[(1, (.v (.int .i64 b12_), [])), (17, (.v (.bool (decide (b12_ < 0))), []))], [], []⟩ _ (by kernel_rfl) .nil ?_
    rcases oif h with ⟨h10, h⟩ | ⟨h10, h⟩
    · refine Wc.condT h10 (by kernel_rfl) ?_
      refine Wc.seq ?_
      refine Wc.region [] [] [4] [] [] ⟨[(4, (.v (.int .i64 (-1)), []))], [], []⟩ _ (by kernel_rfl) .nil ?_
      refine Wc.ret ?_
      obtain rfl := Option.some.inj h
      exact ⟨.inl rfl, by kernel_rfl, by kernel_rfl⟩
    · refine Wc.condF h10 (by kernel_rfl) ?_
      refine Wc.fix (st' := ⟨[(1, (.v (.int .i64 b12_), []))], [], []⟩) [] [1] [] [] (by kernel_rfl) ?_
      refine Wc.skip ?_
      refine Wc.seq ?_
      refine Wc.region [] [] [4] [] [] ⟨[(4, (.v (.int .i64 b12_), []))], [], []⟩ _ (by kernel_rfl) .nil ?_
      refine Wc.ret ?_
      obtain rfl := Option.some.inj h
      exact ⟨.inl rfl, by kernel_rfl, by kernel_rfl⟩

/-- spec.l03Atom -/
def pspec_l03Atom (k : Nat) (e14_ : ByteArray) : Option GTerm :=
  some (GTerm.mk 2 e14_ 0 [])
theorem cspec_l03Atom {k : Nat} {e14_ : ByteArray} {r : GTerm} (h : pspec_l03Atom k e14_ = some r) : FnO Try.prog 56 [.v (.str e14_) []] (.v (.agg [.int .i64 r.gKind, .str r.gName, .int .i64 r.gNum, .sl (List.map GTerm.c r.gKids)]) [(3, .app 40)]) [] := by
  refine FnO.of Try.func56 (rfl : Try.f56.body = some _) (Nat.le_of_ble_eq_true (by kernel_rfl)) (Nat.le_of_ble_eq_true (by kernel_rfl)) ?_
  intro w0 X0 Fin pv0 pb
  unfold pspec_l03Atom at h
  refine Wc.seq ?_
  refine Wc.region [] [] [0, 2] [2] [] ⟨[(0, (.v (.str e14_), [])), (2, (.ptr 2 0, []))], [(2, .cells [.int .i64 0, .str (bs []), .int .i64 0, .sl (List.map GTerm.c [])] [(3, .app 40)])], []⟩ _ (by kernel_rfl) .nil ?_
  refine Wc.seq ?_
  refine Wc.region [{}, {}, { tk := [4] }] [] [2] [2] [] ⟨[(2, (.ptr 2 0, []))], [(2, .cells [.int .i64 2, .str e14_, .int .i64 0, .sl (List.map GTerm.c [])] [(3, .app 40)])], []⟩ _ (by kernel_rfl) .nil ?_
  refine Wc.ret ?_
  obtain rfl := Option.some.inj h
  exact ⟨.inl rfl, by kernel_rfl, by kernel_rfl⟩

/-- spec.l03Two -/
def pspec_l03Two (k : Nat) (e18_ : ByteArray) (f19_ : GTerm) (f20_ : GTerm) : Option GTerm :=
  some (GTerm.mk 4 e18_ 0 [f19_, f20_])
theorem cspec_l03Two {k : Nat} {e18_ : ByteArray} {f19_ : GTerm} {f20_ : GTerm} {r : GTerm} (h : pspec_l03Two k e18_ f19_ f20_ = some r) : FnO Try.prog 57 [.v (.str e18_) [], .v (.agg [.int .i64 f19_.gKind, .str f19_.gName, .int .i64 f19_.gNum, .sl (List.map GTerm.c f19_.gKids)]) [], .v (.agg [.int .i64 f20_.gKind, .str f20_.gName, .int .i64 f20_.gNum, .sl (List.map GTerm.c f20_.gKids)]) []] (.v (.agg [.int .i64 r.gKind, .str r.gName, .int .i64 r.gNum, .sl (List.map GTerm.c r.gKids)]) [(3, .app 40)]) [] := by
  refine FnO.of Try.func57 (rfl : Try.f57.body = some _) (Nat.le_of_ble_eq_true (by kernel_rfl)) (Nat.le_of_ble_eq_true (by kernel_rfl)) ?_
  intro w0 X0 Fin pv0 pb
  unfold pspec_l03Two at h
  refine Wc.seq ?_
  refine Wc.region [] [] [0, 4, 5, 6] [4, 5, 6] [] ⟨[(0, (.v (.str e18_), [])), (4, (.ptr 4 0, [])), (5, (.ptr 5 0, [])), (6, (.ptr 6 0, []))], [(4, .cells [.int .i64 f19_.gKind, .str f19_.gName, .int .i64 f19_.gNum, .sl (List.map GTerm.c f19_.gKids)] []), (5, .cells [.int .i64 f20_.gKind, .str f20_.gName, .int .i64 f20_.gNum, .sl (List.map GTerm.c f20_.gKids)] []), (6, .cells [.int .i64 0, .str (bs []), .int .i64 0, .sl (List.map GTerm.c [])] [(3, .app 40)])], []⟩ _ (by kernel_rfl) .nil ?_
  refine Wc.seq ?_
  refine Wc.region [{}, {}, {}, { c := some (List.map GTerm.c [f19_, f20_]) }, { tk := [10] }, { tk := [11] }] [] [6] [6] [] ⟨[(6, (.ptr 6 0, []))], [(6, .cells [.int .i64 4, .str e18_, .int .i64 0, .sl (List.map GTerm.c [f19_, f20_])] [(3, .app 40)])], []⟩ _ (by kernel_rfl) (.cons (cl_cons (c := GTerm.c) (x := f19_) (GTerm.c_eq f19_) (cl_cons (c := GTerm.c) (x := f20_) (GTerm.c_eq f20_) (cl_nil GTerm.c))) .nil) ?_
  refine Wc.ret ?_
  obtain rfl := Option.some.inj h
  exact ⟨.inl rfl, by kernel_rfl, by kernel_rfl⟩

def pspec_RuleTerm_J2 (k : Nat) (bk_ : Int → GTerm → Option (Out GTerm GTerm)) (b37_ : Int) (d35_ : GRule) (f38_ : GTerm) (f42_ : GTerm) : Option (Out GTerm GTerm) :=
  if (b37_ == (wr.i64 ((d35_.gParts.length : Int) - 1))) = true then
    bk_ (wr.i64 (b37_ - 1)) f42_
  else
    (pspec_l03Two k (bs [44]) f42_ f38_).bind fun f43_ =>
    bk_ (wr.i64 (b37_ - 1)) f43_
def pspec_RuleTerm_L1 (k : Nat) (d35_ : GRule) : Nat → Int → GTerm → Option (Out GTerm GTerm)
  | 0, _, _ => none
  | m + 1, b37_, f38_ =>
    if (decide (b37_ ≥ 0)) = true then
      (at' d35_.gParts b37_).bind fun a40_ =>
      (pspec_l03Atom k a40_.gName).bind fun f41_ =>
      (at' d35_.gParts b37_).bind fun a44_ =>
      if a44_.gWord = true then
        (pspec_l03Atom k (bs [91, 93])).bind fun f45_ =>
        (pspec_l03Two k (bs [46]) f41_ f45_).bind fun f46_ =>
        pspec_RuleTerm_J2 k (pspec_RuleTerm_L1 k d35_ m) b37_ d35_ f38_ f46_
      else
        pspec_RuleTerm_J2 k (pspec_RuleTerm_L1 k d35_ m) b37_ d35_ f38_ f41_
    else
      some (.done f38_)
/-- spec.RuleTerm -/
def pspec_RuleTerm (k : Nat) (d35_ : GRule) : Option GTerm :=
  (pspec_l03Atom k (bs [91, 93])).bind fun f36_ =>
  (pspec_RuleTerm_L1 k d35_ k (wr.i64 ((d35_.gParts.length : Int) - 1)) f36_).bind fun out1 => match out1 with
  | .ret r => some r
  | .done f39_ =>
    (pspec_l03Atom k d35_.gName).bind fun f47_ =>
    (pspec_l03Two k (bs [45, 45, 62]) f47_ f39_).bind fun f48_ =>
    some f48_
theorem cspec_RuleTerm {k : Nat} {d35_ : GRule} {r : GTerm} (h : pspec_RuleTerm k d35_ = some r) : FnO Try.prog 15 [.v (.agg [.str d35_.gName, .sl (List.map GPart.c d35_.gParts)]) []] (.v (.agg [.int .i64 r.gKind, .str r.gName, .int .i64 r.gNum, .sl (List.map GTerm.c r.gKids)]) [(3, .app 40)]) [] := by
  refine FnO.of Try.func15 (rfl : Try.f15.body = some _) (Nat.le_of_ble_eq_true (by kernel_rfl)) (Nat.le_of_ble_eq_true (by kernel_rfl)) ?_
  intro w0 X0 Fin pv0 pb
  unfold pspec_RuleTerm at h
  refine Wc.seq ?_
  refine Wc.region [] [] [1, 2] [1, 2] [] ⟨[(1, (.ptr 1 0, [])), (2, (.ptr 2 0, []))], [(1, .cells [.str d35_.gName, .sl (List.map GPart.c d35_.gParts)] []), (2, .cells [.int .i64 0, .str (bs []), .int .i64 0, .sl (List.map GTerm.c [])] [(3, .app 40)])], []⟩ _ (by kernel_rfl) .nil ?_
  refine Wc.seq ?_
  obtain ⟨f36_, h24, h⟩ := obind h
  refine Wc.region [{ r := some (.v (.agg [.int .i64 f36_.gKind, .str f36_.gName, .int .i64 f36_.gNum, .sl (List.map GTerm.c f36_.gKids)]) [(3, .app 40)]) }, {}, { tk := [6] }] [] [1, 2, 3] [1, 2, 3] [] ⟨[(1, (.ptr 1 0, [])), (2, (.ptr 2 0, [])), (3, (.ptr 3 0, []))], [(1, .cells [.str d35_.gName, .sl (List.map GPart.c d35_.gParts)] []), (2, .cells [.int .i64 0, .str (bs []), .int .i64 0, .sl (List.map GTerm.c [])] [(3, .app 40)]), (3, .cells [.int .i64 f36_.gKind, .str f36_.gName, .int .i64 f36_.gNum, .sl (List.map GTerm.c f36_.gKids)] [(3, .app 40)])], []⟩ _ (by kernel_rfl) (.cons (cspec_l03Atom h24) .nil) ?_
  refine Wc.seq ?_
  refine Wc.seq ?_
  refine Wc.region [{}, {}, { v := some (.int .i64 (d35_.gParts.length : Int)) }] [] [1, 2, 3, 4] [1, 2, 3] [] ⟨[(1, (.ptr 1 0, [])), (2, (.ptr 2 0, [])), (3, (.ptr 3 0, [])), (4, (.v (.int .i64 (wr.i64 ((d35_.gParts.length : Int) - 1))), []))], [(1, .cells [.str d35_.gName, .sl (List.map GPart.c d35_.gParts)] []), (2, .cells [.int .i64 0, .str (bs []), .int .i64 0, .sl (List.map GTerm.c [])] [(3, .app 40)]), (3, .cells [.int .i64 f36_.gKind, .str f36_.gName, .int .i64 f36_.gNum, .sl (List.map GTerm.c f36_.gKids)] [(3, .app 40)])], []⟩ _ (by kernel_rfl) (.cons (len_obl GPart.c d35_.gParts) .nil) ?_
  obtain ⟨out1, h25, h⟩ := obind h
  refine Wc.lastJ (fun st => ∃ (f39_ : GTerm), out1 = .done f39_ ∧ st = ⟨[(1, (.ptr 1 0, [])), (2, (.ptr 2 0, [])), (3, (.ptr 3 0, []))], [(1, .cells [.str d35_.gName, .sl (List.map GPart.c d35_.gParts)] []), (2, .cells [.int .i64 0, .str (bs []), .int .i64 0, .sl (List.map GTerm.c [])] [(3, .app 40)]), (3, .cells [.int .i64 f39_.gKind, .str f39_.gName, .int .i64 f39_.gNum, .sl (List.map GTerm.c f39_.gKids)] [(3, .app 40)])], []⟩) ?_ ?_
  · refine Wc.block ?_
    refine Wc.loop (fun m st => ∃ (b37_ : Int) (f38_ : GTerm), st = ⟨[(1, (.ptr 1 0, [])), (2, (.ptr 2 0, [])), (3, (.ptr 3 0, [])), (4, (.v (.int .i64 b37_), []))], [(1, .cells [.str d35_.gName, .sl (List.map GPart.c d35_.gParts)] []), (2, .cells [.int .i64 0, .str (bs []), .int .i64 0, .sl (List.map GTerm.c [])] [(3, .app 40)]), (3, .cells [.int .i64 f38_.gKind, .str f38_.gName, .int .i64 f38_.gNum, .sl (List.map GTerm.c f38_.gKids)] [(3, .app 40)])], []⟩ ∧ pspec_RuleTerm_L1 k d35_ m b37_ f38_ = some out1) ?_ k ⟨_, _, rfl, h25⟩
    rintro m st ⟨b37_, f38_, rfl, h25⟩
    cases m with
    | zero => exact (onone h25).elim
    | succ m =>
      refine Wc.seq ?_
      refine Wc.seq ?_
      refine Wc.region [] [] [1, 2, 3, 4, 12] [1, 2, 3] [] ⟨[(1, (.ptr 1 0, [])), (2, (.ptr 2 0, [])), (3, (.ptr 3 0, [])), (4, (.v (.int .i64 b37_), [])), (12, (.v (.bool (decide (b37_ ≥ 0))), []))], [(1, .cells [.str d35_.gName, .sl (List.map GPart.c d35_.gParts)] []), (2, .cells [.int .i64 0, .str (bs []), .int .i64 0, .sl (List.map GTerm.c [])] [(3, .app 40)]), (3, .cells [.int .i64 f38_.gKind, .str f38_.gName, .int .i64 f38_.gNum, .sl (List.map GTerm.c f38_.gKids)] [(3, .app 40)])], []⟩ _ (by kernel_rfl) .nil ?_
      rcases oif h25 with ⟨h26, h25⟩ | ⟨h26, h25⟩
      · refine Wc.condT h26 (by kernel_rfl) ?_
        refine Wc.fix (st' := ⟨[(1, (.ptr 1 0, [])), (2, (.ptr 2 0, [])), (3, (.ptr 3 0, [])), (4, (.v (.int .i64 b37_), []))], [(1, .cells [.str d35_.gName, .sl (List.map GPart.c d35_.gParts)] []), (2, .cells [.int .i64 0, .str (bs []), .int .i64 0, .sl (List.map GTerm.c [])] [(3, .app 40)]), (3, .cells [.int .i64 f38_.gKind, .str f38_.gName, .int .i64 f38_.gNum, .sl (List.map GTerm.c f38_.gKids)] [(3, .app 40)])], []⟩) [] [1, 2, 3, 4] [1, 2, 3] [] (by kernel_rfl) ?_
        refine Wc.skip ?_
        refine Wc.seq ?_
        refine Wc.block ?_
        refine Wc.seq ?_
        obtain ⟨a40_, h27, h25⟩ := obind h25
        obtain ⟨f41_, h28, h25⟩ := obind h25
        refine Wc.region [{}, {}, {}, { v := some (.vptr [.bool a40_.gWord, .str a40_.gName]) }, {}, {}, { r := some (.v (.agg [.int .i64 f41_.gKind, .str f41_.gName, .int .i64 f41_.gNum, .sl (List.map GTerm.c f41_.gKids)]) [(3, .app 40)]) }, {}, { tk := [21] }] [] [1, 2, 3, 4, 5] [1, 2, 3, 5] [] ⟨[(1, (.ptr 1 0, [])), (2, (.ptr 2 0, [])), (3, (.ptr 3 0, [])), (4, (.v (.int .i64 b37_), [])), (5, (.ptr 5 0, []))], [(1, .cells [.str d35_.gName, .sl (List.map GPart.c d35_.gParts)] []), (2, .cells [.int .i64 0, .str (bs []), .int .i64 0, .sl (List.map GTerm.c [])] [(3, .app 40)]), (3, .cells [.int .i64 f38_.gKind, .str f38_.gName, .int .i64 f38_.gNum, .sl (List.map GTerm.c f38_.gKids)] [(3, .app 40)]), (5, .cells [.int .i64 f41_.gKind, .str f41_.gName, .int .i64 f41_.gNum, .sl (List.map GTerm.c f41_.gKids)] [(3, .app 40)])], []⟩ _ (by kernel_rfl) (.cons (at_obl (c := GPart.c) (GPart.c_eq a40_) GPart.c_len h27) (.cons (len_ok 1 [.str a40_.gName]) (.cons (cspec_l03Atom h28) .nil))) ?_
        refine Wc.seqJ (fun st => ∃ (f42_ : GTerm), st = ⟨[(1, (.ptr 1 0, [])), (2, (.ptr 2 0, [])), (3, (.ptr 3 0, [])), (4, (.v (.int .i64 b37_), [])), (5, (.ptr 5 0, []))], [(1, .cells [.str d35_.gName, .sl (List.map GPart.c d35_.gParts)] []), (2, .cells [.int .i64 0, .str (bs []), .int .i64 0, .sl (List.map GTerm.c [])] [(3, .app 40)]), (3, .cells [.int .i64 f38_.gKind, .str f38_.gName, .int .i64 f38_.gNum, .sl (List.map GTerm.c f38_.gKids)] [(3, .app 40)]), (5, .cells [.int .i64 f42_.gKind, .str f42_.gName, .int .i64 f42_.gNum, .sl (List.map GTerm.c f42_.gKids)] [(3, .app 40)])], []⟩ ∧ pspec_RuleTerm_J2 k (pspec_RuleTerm_L1 k d35_ m) b37_ d35_ f38_ f42_ = some out1) ?_ ?_
        · refine Wc.seq ?_
          obtain ⟨a44_, h31, h25⟩ := obind h25
          refine Wc.region [{}, {}, {}, { v := some (.vptr [.bool a44_.gWord, .str a44_.gName]) }] [] [1, 2, 3, 4, 5, 27] [1, 2, 3, 5] [] ⟨[(1, (.ptr 1 0, [])), (2, (.ptr 2 0, [])), (3, (.ptr 3 0, [])), (4, (.v (.int .i64 b37_), [])), (5, (.ptr 5 0, [])), (27, (.v (.bool a44_.gWord), []))], [(1, .cells [.str d35_.gName, .sl (List.map GPart.c d35_.gParts)] []), (2, .cells [.int .i64 0, .str (bs []), .int .i64 0, .sl (List.map GTerm.c [])] [(3, .app 40)]), (3, .cells [.int .i64 f38_.gKind, .str f38_.gName, .int .i64 f38_.gNum, .sl (List.map GTerm.c f38_.gKids)] [(3, .app 40)]), (5, .cells [.int .i64 f41_.gKind, .str f41_.gName, .int .i64 f41_.gNum, .sl (List.map GTerm.c f41_.gKids)] [(3, .app 40)])], []⟩ _ (by kernel_rfl) (.cons (at_obl (c := GPart.c) (GPart.c_eq a44_) GPart.c_len h31) (.cons (len_ok 1 [.bool a44_.gWord, .str a44_.gName]) .nil)) ?_
          rcases oif h25 with ⟨h32, h25⟩ | ⟨h32, h25⟩
          · refine Wc.condT h32 (by kernel_rfl) ?_
            obtain ⟨f45_, h33, h25⟩ := obind h25
            obtain ⟨f46_, h34, h25⟩ := obind h25
            refine Wc.draw hmix [{}, { r := some (.v (.agg [.int .i64 f45_.gKind, .str f45_.gName, .int .i64 f45_.gNum, .sl (List.map GTerm.c f45_.gKids)]) [(3, .app 40)]) }, { r := some (.v (.agg [.int .i64 f46_.gKind, .str f46_.gName, .int .i64 f46_.gNum, .sl (List.map GTerm.c f46_.gKids)]) [(3, .app 40)]) }, { tk := [30] }] [] [1, 2, 3, 4, 5] [1, 2, 3, 5] [] ⟨[(1, (.ptr 1 0, [])), (2, (.ptr 2 0, [])), (3, (.ptr 3 0, [])), (4, (.v (.int .i64 b37_), [])), (5, (.ptr 5 0, []))], [(1, .cells [.str d35_.gName, .sl (List.map GPart.c d35_.gParts)] []), (2, .cells [.int .i64 0, .str (bs []), .int .i64 0, .sl (List.map GTerm.c [])] [(3, .app 40)]), (3, .cells [.int .i64 f38_.gKind, .str f38_.gName, .int .i64 f38_.gNum, .sl (List.map GTerm.c f38_.gKids)] [(3, .app 40)]), (5, .cells [.int .i64 f46_.gKind, .str f46_.gName, .int .i64 f46_.gNum, .sl (List.map GTerm.c f46_.gKids)] [(3, .app 40)])], []⟩ _ (by kernel_rfl) (fun X => by kernel_rfl) (.cons (cspec_l03Atom h33) (.cons (cspec_l03Two h34) .nil)) ?_
            exact ⟨_, rfl, h25⟩
          · refine Wc.condF h32 (by kernel_rfl) ?_
            refine Wc.fix (st' := ⟨[(1, (.ptr 1 0, [])), (2, (.ptr 2 0, [])), (3, (.ptr 3 0, [])), (4, (.v (.int .i64 b37_), [])), (5, (.ptr 5 0, []))], [(1, .cells [.str d35_.gName, .sl (List.map GPart.c d35_.gParts)] []), (2, .cells [.int .i64 0, .str (bs []), .int .i64 0, .sl (List.map GTerm.c [])] [(3, .app 40)]), (3, .cells [.int .i64 f38_.gKind, .str f38_.gName, .int .i64 f38_.gNum, .sl (List.map GTerm.c f38_.gKids)] [(3, .app 40)]), (5, .cells [.int .i64 f41_.gKind, .str f41_.gName, .int .i64 f41_.gNum, .sl (List.map GTerm.c f41_.gKids)] [(3, .app 40)])], []⟩) [] [1, 2, 3, 4, 5] [1, 2, 3, 5] [] (by kernel_rfl) ?_
            refine Wc.skip ?_
            exact ⟨_, rfl, h25⟩
        · rintro st ⟨f42_, rfl, h25⟩
          refine Wc.seq ?_
          refine Wc.region [{}, {}, {}, { v := some (.int .i64 (d35_.gParts.length : Int)) }] [] [1, 2, 3, 4, 5, 36] [1, 2, 3, 5] [] ⟨[(1, (.ptr 1 0, [])), (2, (.ptr 2 0, [])), (3, (.ptr 3 0, [])), (4, (.v (.int .i64 b37_), [])), (5, (.ptr 5 0, [])), (36, (.v (.bool (b37_ == (wr.i64 ((d35_.gParts.length : Int) - 1)))), []))], [(1, .cells [.str d35_.gName, .sl (List.map GPart.c d35_.gParts)] []), (2, .cells [.int .i64 0, .str (bs []), .int .i64 0, .sl (List.map GTerm.c [])] [(3, .app 40)]), (3, .cells [.int .i64 f38_.gKind, .str f38_.gName, .int .i64 f38_.gNum, .sl (List.map GTerm.c f38_.gKids)] [(3, .app 40)]), (5, .cells [.int .i64 f42_.gKind, .str f42_.gName, .int .i64 f42_.gNum, .sl (List.map GTerm.c f42_.gKids)] [(3, .app 40)])], []⟩ _ (by kernel_rfl) (.cons (len_obl GPart.c d35_.gParts) .nil) ?_
          rcases oif h25 with ⟨h29, h25⟩ | ⟨h29, h25⟩
          · refine Wc.condT h29 (by kernel_rfl) ?_
            refine Wc.region [{ md := 1 }, { tk := [37] }] [] [1, 2, 3, 4] [1, 2, 3] [] ⟨[(1, (.ptr 1 0, [])), (2, (.ptr 2 0, [])), (3, (.ptr 3 0, [])), (4, (.v (.int .i64 b37_), []))], [(1, .cells [.str d35_.gName, .sl (List.map GPart.c d35_.gParts)] []), (2, .cells [.int .i64 0, .str (bs []), .int .i64 0, .sl (List.map GTerm.c [])] [(3, .app 40)]), (3, .cells [.int .i64 f42_.gKind, .str f42_.gName, .int .i64 f42_.gNum, .sl (List.map GTerm.c f42_.gKids)] [(3, .app 40)])], []⟩ _ (by kernel_rfl) .nil ?_
            refine Wc.region [] [] [1, 2, 3, 4] [1, 2, 3] [] ⟨[(1, (.ptr 1 0, [])), (2, (.ptr 2 0, [])), (3, (.ptr 3 0, [])), (4, (.v (.int .i64 (wr.i64 (b37_ - 1))), []))], [(1, .cells [.str d35_.gName, .sl (List.map GPart.c d35_.gParts)] []), (2, .cells [.int .i64 0, .str (bs []), .int .i64 0, .sl (List.map GTerm.c [])] [(3, .app 40)]), (3, .cells [.int .i64 f42_.gKind, .str f42_.gName, .int .i64 f42_.gNum, .sl (List.map GTerm.c f42_.gKids)] [(3, .app 40)])], []⟩ _ (by kernel_rfl) .nil ?_
            exact ⟨_, Nat.lt_succ_self _, _, _, rfl, h25⟩
          · refine Wc.condF h29 (by kernel_rfl) ?_
            obtain ⟨f43_, h30, h25⟩ := obind h25
            refine Wc.region [{}, {}, { r := some (.v (.agg [.int .i64 f43_.gKind, .str f43_.gName, .int .i64 f43_.gNum, .sl (List.map GTerm.c f43_.gKids)]) [(3, .app 40)]) }, { tk := [40] }] [] [1, 2, 3, 4] [1, 2, 3] [] ⟨[(1, (.ptr 1 0, [])), (2, (.ptr 2 0, [])), (3, (.ptr 3 0, [])), (4, (.v (.int .i64 b37_), []))], [(1, .cells [.str d35_.gName, .sl (List.map GPart.c d35_.gParts)] []), (2, .cells [.int .i64 0, .str (bs []), .int .i64 0, .sl (List.map GTerm.c [])] [(3, .app 40)]), (3, .cells [.int .i64 f43_.gKind, .str f43_.gName, .int .i64 f43_.gNum, .sl (List.map GTerm.c f43_.gKids)] [(3, .app 40)])], []⟩ _ (by kernel_rfl) (.cons (cspec_l03Two h30) .nil) ?_
            refine Wc.region [] [] [1, 2, 3, 4] [1, 2, 3] [] ⟨[(1, (.ptr 1 0, [])), (2, (.ptr 2 0, [])), (3, (.ptr 3 0, [])), (4, (.v (.int .i64 (wr.i64 (b37_ - 1))), []))], [(1, .cells [.str d35_.gName, .sl (List.map GPart.c d35_.gParts)] []), (2, .cells [.int .i64 0, .str (bs []), .int .i64 0, .sl (List.map GTerm.c [])] [(3, .app 40)]), (3, .cells [.int .i64 f43_.gKind, .str f43_.gName, .int .i64 f43_.gNum, .sl (List.map GTerm.c f43_.gKids)] [(3, .app 40)])], []⟩ _ (by kernel_rfl) .nil ?_
            exact ⟨_, Nat.lt_succ_self _, _, _, rfl, h25⟩
      · refine Wc.condF h26 (by kernel_rfl) ?_
        refine Wc.fix (st' := ⟨[(1, (.ptr 1 0, [])), (2, (.ptr 2 0, [])), (3, (.ptr 3 0, []))], [(1, .cells [.str d35_.gName, .sl (List.map GPart.c d35_.gParts)] []), (2, .cells [.int .i64 0, .str (bs []), .int .i64 0, .sl (List.map GTerm.c [])] [(3, .app 40)]), (3, .cells [.int .i64 f38_.gKind, .str f38_.gName, .int .i64 f38_.gNum, .sl (List.map GTerm.c f38_.gKids)] [(3, .app 40)])], []⟩) [] [1, 2, 3] [1, 2, 3] [] (by kernel_rfl) ?_
        refine Wc.exit ?_
        obtain rfl := Option.some.inj h25
        exact ⟨_, rfl, rfl⟩
  · rintro st ⟨f39_, rfl, rfl⟩
    refine Wc.seq ?_
    obtain ⟨f47_, h35, h⟩ := obind h
    obtain ⟨f48_, h36, h⟩ := obind h
    refine Wc.draw hmix [{}, {}, { r := some (.v (.agg [.int .i64 f47_.gKind, .str f47_.gName, .int .i64 f47_.gNum, .sl (List.map GTerm.c f47_.gKids)]) [(3, .app 40)]) }, {}, { r := some (.v (.agg [.int .i64 f48_.gKind, .str f48_.gName, .int .i64 f48_.gNum, .sl (List.map GTerm.c f48_.gKids)]) [(3, .app 40)]) }, { tk := [45] }] [] [2] [2] [] ⟨[(2, (.ptr 2 0, []))], [(2, .cells [.int .i64 f48_.gKind, .str f48_.gName, .int .i64 f48_.gNum, .sl (List.map GTerm.c f48_.gKids)] [(3, .app 40)])], []⟩ _ (by kernel_rfl) (fun X => by kernel_rfl) (.cons (cspec_l03Atom h35) (.cons (cspec_l03Two h36) .nil)) ?_
    refine Wc.ret ?_
    obtain rfl := Option.some.inj h
    exact ⟨.inl rfl, by kernel_rfl, by kernel_rfl⟩

/-- laws.toPart -/
def plaws_toPart (k : Nat) (a49_ : GPart) : Option GPart :=
  some a49_
theorem claws_toPart {k : Nat} {a49_ : GPart} {r : GPart} (h : plaws_toPart k a49_ = some r) : FnO Try.prog 89 [.v (.agg [.bool a49_.gWord, .str a49_.gName]) []] (.v (.agg [.bool r.gWord, .str r.gName]) []) [] := by
  refine FnO.of Try.func89 (rfl : Try.f89.body = some _) (Nat.le_of_ble_eq_true (by kernel_rfl)) (Nat.le_of_ble_eq_true (by kernel_rfl)) ?_
  intro w0 X0 Fin pv0 pb
  unfold plaws_toPart at h
  refine Wc.seq ?_
  refine Wc.region [] [] [1, 2] [1, 2] [] ⟨[(1, (.ptr 1 0, [])), (2, (.ptr 2 0, []))], [(1, .cells [.bool a49_.gWord, .str a49_.gName] []), (2, .cells [.bool false, .str (bs [])] [])], []⟩ _ (by kernel_rfl) .nil ?_
  refine Wc.seq ?_
  refine Wc.region [] [] [1, 2, 3] [1, 2, 3] [] ⟨[(1, (.ptr 1 0, [])), (2, (.ptr 2 0, [])), (3, (.ptr 3 0, []))], [(1, .cells [.bool a49_.gWord, .str a49_.gName] []), (2, .cells [.bool false, .str (bs [])] []), (3, .cells [.bool false, .str (bs [])] [])], []⟩ _ (by kernel_rfl) .nil ?_
  refine Wc.seq ?_
  refine Wc.region [] [] [1, 2, 3] [1, 2, 3] [] ⟨[(1, (.ptr 1 0, [])), (2, (.ptr 2 0, [])), (3, (.ptr 3 0, []))], [(1, .cells [.bool a49_.gWord, .str a49_.gName] []), (2, .cells [.bool false, .str (bs [])] []), (3, .cells [.bool a49_.gWord, .str (bs [])] [])], []⟩ _ (by kernel_rfl) .nil ?_
  refine Wc.seq ?_
  refine Wc.region [] [] [2, 3] [2, 3] [] ⟨[(2, (.ptr 2 0, [])), (3, (.ptr 3 0, []))], [(2, .cells [.bool false, .str (bs [])] []), (3, .cells [.bool a49_.gWord, .str a49_.gName] [])], []⟩ _ (by kernel_rfl) .nil ?_
  refine Wc.seq ?_
  refine Wc.region [] [] [2] [2] [] ⟨[(2, (.ptr 2 0, []))], [(2, .cells [.bool a49_.gWord, .str a49_.gName] [])], []⟩ _ (by kernel_rfl) .nil ?_
  refine Wc.ret ?_
  obtain rfl := Option.some.inj h
  exact ⟨.inl rfl, by kernel_rfl, by kernel_rfl⟩

def plaws_toPartS_L1 (k : Nat) (c50_ : List GPart) : Nat → (List GPart) → Int → Option (Out (List GPart) (List GPart))
  | 0, _, _ => none
  | m + 1, c51_, b52_ =>
    if (decide (b52_ < (c50_.length : Int))) = true then
      (at' c50_ b52_).bind fun a54_ =>
      (plaws_toPart k a54_).bind fun a55_ =>
      (at' c51_ b52_).bind fun a56_ =>
      plaws_toPartS_L1 k c50_ m (c51_.set ((b52_).toNat) a55_) (wr.i64 (b52_ + 1))
    else
      some (.done c51_)
/-- laws.toPartS -/
def plaws_toPartS (k : Nat) (c50_ : List GPart) : Option (List GPart) :=
  if 0 ≤ (c50_.length : Int) ∧ (c50_.length : Int) ≤ 1073741824 then
    (plaws_toPartS_L1 k c50_ k (List.replicate ((c50_.length : Int)).toNat (GPart.mk false (bs []))) 0).bind fun out1 => match out1 with
    | .ret r => some r
    | .done c53_ =>
      some c53_
  else none
theorem claws_toPartS {k : Nat} {c50_ : List GPart} {r : (List GPart)} (h : plaws_toPartS k c50_ = some r) : FnO Try.prog 58 [.v (.sl (List.map GPart.c c50_)) []] (.v (.sl (List.map GPart.c r)) []) [] := by
  refine FnO.of Try.func58 (rfl : Try.f58.body = some _) (Nat.le_of_ble_eq_true (by kernel_rfl)) (Nat.le_of_ble_eq_true (by kernel_rfl)) ?_
  intro w0 X0 Fin pv0 pb
  unfold plaws_toPartS at h
  refine Wc.seq ?_
  refine Wc.region [] [] [0] [] [] ⟨[(0, (.v (.sl (List.map GPart.c c50_)), []))], [], []⟩ _ (by kernel_rfl) .nil ?_
  refine Wc.seq ?_
  obtain ⟨h37, h⟩ := oguard h
  refine Wc.region [{}, { v := some (.int .i64 (c50_.length : Int)) }, { c := some (List.map GPart.c (List.replicate ((c50_.length : Int)).toNat (GPart.mk false (bs [])))) }, { tk := [7] }] [] [0, 3] [] [] ⟨[(0, (.v (.sl (List.map GPart.c c50_)), [])), (3, (.v (.slx), [(0, .ex 106 true (List.map GPart.c (List.replicate ((c50_.length : Int)).toNat (GPart.mk false (bs [])))))]))], [], []⟩ _ (by kernel_rfl) (.cons (len_obl GPart.c c50_) (.cons (rep_re (c := GPart.c) (GPart.c_eq (GPart.mk false (bs []))) ((c50_.length : Int)).toNat) (.cons (ms_obl h37) .nil))) ?_
  refine Wc.seq ?_
  refine Wc.seq ?_
  refine Wc.region [] [] [0, 3, 4] [] [] ⟨[(0, (.v (.sl (List.map GPart.c c50_)), [])), (3, (.v (.slx), [(0, .ex 106 true (List.map GPart.c (List.replicate ((c50_.length : Int)).toNat (GPart.mk false (bs [])))))])), (4, (.v (.int .i64 0), []))], [], []⟩ _ (by kernel_rfl) .nil ?_
  obtain ⟨out1, h38, h⟩ := obind h
  refine Wc.lastJ (fun st => ∃ (c53_ : List GPart), out1 = .done c53_ ∧ st = ⟨[(3, (.v (.slx), [(0, .ex 106 true (List.map GPart.c c53_))]))], [], []⟩) ?_ ?_
  · refine Wc.block ?_
    refine Wc.loop (fun m st => ∃ (c51_ : List GPart) (b52_ : Int), st = ⟨[(0, (.v (.sl (List.map GPart.c c50_)), [])), (3, (.v (.slx), [(0, .ex 106 true (List.map GPart.c c51_))])), (4, (.v (.int .i64 b52_), []))], [], []⟩ ∧ plaws_toPartS_L1 k c50_ m c51_ b52_ = some out1) ?_ k ⟨_, _, rfl, h38⟩
    rintro m st ⟨c51_, b52_, rfl, h38⟩
    cases m with
    | zero => exact (onone h38).elim
    | succ m =>
      refine Wc.seq ?_
      refine Wc.seq ?_
      refine Wc.region [{}, {}, { v := some (.int .i64 (c50_.length : Int)) }] [] [0, 3, 4, 11] [] [] ⟨[(0, (.v (.sl (List.map GPart.c c50_)), [])), (3, (.v (.slx), [(0, .ex 106 true (List.map GPart.c c51_))])), (4, (.v (.int .i64 b52_), [])), (11, (.v (.bool (decide (b52_ < (c50_.length : Int)))), []))], [], []⟩ _ (by kernel_rfl) (.cons (len_obl GPart.c c50_) .nil) ?_
      rcases oif h38 with ⟨h39, h38⟩ | ⟨h39, h38⟩
      · refine Wc.condT h39 (by kernel_rfl) ?_
        refine Wc.fix (st' := ⟨[(0, (.v (.sl (List.map GPart.c c50_)), [])), (3, (.v (.slx), [(0, .ex 106 true (List.map GPart.c c51_))])), (4, (.v (.int .i64 b52_), []))], [], []⟩) [] [0, 3, 4] [] [] (by kernel_rfl) ?_
        refine Wc.skip ?_
        refine Wc.seq ?_
        refine Wc.block ?_
        obtain ⟨a54_, h40, h38⟩ := obind h38
        obtain ⟨a55_, h41, h38⟩ := obind h38
        obtain ⟨a56_, h42, h38⟩ := obind h38
        refine Wc.region [{}, {}, {}, {}, { v := some (.vptr [.bool a54_.gWord, .str a54_.gName]) }, {}, { r := some (.v (.agg [.bool a55_.gWord, .str a55_.gName]) []) }, {}, { c := some (List.map GPart.c (c51_.set ((b52_).toNat) a55_)) }] [] [0, 3, 4] [] [] ⟨[(0, (.v (.sl (List.map GPart.c c50_)), [])), (3, (.v (.slx), [(0, .ex 106 true (List.map GPart.c (c51_.set ((b52_).toNat) a55_)))])), (4, (.v (.int .i64 b52_), []))], [], []⟩ _ (by kernel_rfl) (.cons (at_obl (c := GPart.c) (GPart.c_eq a54_) GPart.c_len h40) (.cons (len_ok 2 [.bool a54_.gWord, .str a54_.gName]) (.cons (claws_toPart h41) (.cons (ix_obl (c := GPart.c) GPart.c_len h42) (.cons (mod_obl (off := 0) (new := [.bool a55_.gWord, .str a55_.gName]) (c := GPart.c) (GPart.c_eq a56_) (GPart.c_eq a55_) (at'_spec h42).2 rfl) (.cons (st_obl (sz := 2) (off := 0) (s := 2) (c := GPart.c) (GPart.c_eq a56_) (at'_spec h42).2 rfl (Nat.le_of_ble_eq_true rfl)) .nil)))))) ?_
        refine Wc.region [] [] [0, 3, 4] [] [] ⟨[(0, (.v (.sl (List.map GPart.c c50_)), [])), (3, (.v (.slx), [(0, .ex 106 true (List.map GPart.c (c51_.set ((b52_).toNat) a55_)))])), (4, (.v (.int .i64 (wr.i64 (b52_ + 1))), []))], [], []⟩ _ (by kernel_rfl) .nil ?_
        exact ⟨_, Nat.lt_succ_self _, _, _, rfl, h38⟩
      · refine Wc.condF h39 (by kernel_rfl) ?_
        refine Wc.fix (st' := ⟨[(3, (.v (.slx), [(0, .ex 106 true (List.map GPart.c c51_))]))], [], []⟩) [] [3] [] [] (by kernel_rfl) ?_
        refine Wc.exit ?_
        obtain rfl := Option.some.inj h38
        exact ⟨_, rfl, rfl⟩
  · rintro st ⟨c53_, rfl, rfl⟩
    refine Wc.seq ?_
    refine Wc.region [{ tk := [3] }, { tk := [22] }] [] [2] [] [] ⟨[(2, (.v (.slx), [(0, .ex 106 true (List.map GPart.c c53_))]))], [], []⟩ _ (by kernel_rfl) .nil ?_
    refine Wc.fix (st' := ⟨[(2, (.v (.sl (List.map GPart.c c53_)), []))], [], []⟩) [.sh (.t 2 0)] [2] [] [] (by kernel_rfl) ?_
    refine Wc.ret ?_
    obtain rfl := Option.some.inj h
    exact ⟨.inl rfl, by kernel_rfl, by kernel_rfl⟩

/-- laws.toRule -/
def plaws_toRule (k : Nat) (d57_ : GRule) : Option GRule :=
  (plaws_toPartS k d57_.gParts).bind fun g58_ =>
  some (GRule.mk d57_.gName g58_)
theorem claws_toRule {k : Nat} {d57_ : GRule} {r : GRule} (h : plaws_toRule k d57_ = some r) : FnO Try.prog 16 [.v (.agg [.str d57_.gName, .sl (List.map GPart.c d57_.gParts)]) []] (.v (.agg [.str r.gName, .sl (List.map GPart.c r.gParts)]) []) [] := by
  refine FnO.of Try.func16 (rfl : Try.f16.body = some _) (Nat.le_of_ble_eq_true (by kernel_rfl)) (Nat.le_of_ble_eq_true (by kernel_rfl)) ?_
  intro w0 X0 Fin pv0 pb
  unfold plaws_toRule at h
  refine Wc.seq ?_
  refine Wc.region [] [] [1, 2] [1, 2] [] ⟨[(1, (.ptr 1 0, [])), (2, (.ptr 2 0, []))], [(1, .cells [.str d57_.gName, .sl (List.map GPart.c d57_.gParts)] []), (2, .cells [.str (bs []), .sl (List.map GPart.c [])] [(1, .app 106)])], []⟩ _ (by kernel_rfl) .nil ?_
  refine Wc.seq ?_
  refine Wc.region [] [] [1, 2, 3] [1, 2, 3] [] ⟨[(1, (.ptr 1 0, [])), (2, (.ptr 2 0, [])), (3, (.ptr 3 0, []))], [(1, .cells [.str d57_.gName, .sl (List.map GPart.c d57_.gParts)] []), (2, .cells [.str (bs []), .sl (List.map GPart.c [])] [(1, .app 106)]), (3, .cells [.str (bs []), .sl (List.map GPart.c [])] [(1, .app 106)])], []⟩ _ (by kernel_rfl) .nil ?_
  refine Wc.seq ?_
  refine Wc.region [] [] [1, 2, 3] [1, 2, 3] [] ⟨[(1, (.ptr 1 0, [])), (2, (.ptr 2 0, [])), (3, (.ptr 3 0, []))], [(1, .cells [.str d57_.gName, .sl (List.map GPart.c d57_.gParts)] []), (2, .cells [.str (bs []), .sl (List.map GPart.c [])] [(1, .app 106)]), (3, .cells [.str d57_.gName, .sl (List.map GPart.c [])] [(1, .app 106)])], []⟩ _ (by kernel_rfl) .nil ?_
  refine Wc.seq ?_
  obtain ⟨g58_, h43, h⟩ := obind h
  refine Wc.region [{}, {}, { r := some (.v (.sl (List.map GPart.c g58_)) []) }] [] [2, 3] [2, 3] [] ⟨[(2, (.ptr 2 0, [])), (3, (.ptr 3 0, []))], [(2, .cells [.str (bs []), .sl (List.map GPart.c [])] [(1, .app 106)]), (3, .cells [.str d57_.gName, .sl (List.map GPart.c g58_)] [])], []⟩ _ (by kernel_rfl) (.cons (claws_toPartS h43) .nil) ?_
  refine Wc.seq ?_
  refine Wc.region [] [] [2] [2] [] ⟨[(2, (.ptr 2 0, []))], [(2, .cells [.str d57_.gName, .sl (List.map GPart.c g58_)] [])], []⟩ _ (by kernel_rfl) .nil ?_
  refine Wc.ret ?_
  obtain rfl := Option.some.inj h
  exact ⟨.inl rfl, by kernel_rfl, by kernel_rfl⟩

/-- impl.atom -/
def pimpl_atom (k : Nat) (e60_ : ByteArray) : Option GTerm :=
  some (GTerm.mk 2 e60_ 0 [])
theorem cimpl_atom {k : Nat} {e60_ : ByteArray} {r : GTerm} (h : pimpl_atom k e60_ = some r) : FnO Try.prog 59 [.v (.str e60_) []] (.v (.agg [.int .i64 r.gKind, .str r.gName, .int .i64 r.gNum, .sl (List.map GTerm.c r.gKids)]) [(3, .app 40)]) [] := by
  refine FnO.of Try.func59 (rfl : Try.f59.body = some _) (Nat.le_of_ble_eq_true (by kernel_rfl)) (Nat.le_of_ble_eq_true (by kernel_rfl)) ?_
  intro w0 X0 Fin pv0 pb
  unfold pimpl_atom at h
  refine Wc.seq ?_
  refine Wc.region [] [] [0, 2] [2] [] ⟨[(0, (.v (.str e60_), [])), (2, (.ptr 2 0, []))], [(2, .cells [.int .i64 0, .str (bs []), .int .i64 0, .sl (List.map GTerm.c [])] [(3, .app 40)])], []⟩ _ (by kernel_rfl) .nil ?_
  refine Wc.seq ?_
  refine Wc.region [{}, {}, { tk := [4] }] [] [2] [2] [] ⟨[(2, (.ptr 2 0, []))], [(2, .cells [.int .i64 2, .str e60_, .int .i64 0, .sl (List.map GTerm.c [])] [(3, .app 40)])], []⟩ _ (by kernel_rfl) .nil ?_
  refine Wc.ret ?_
  obtain rfl := Option.some.inj h
  exact ⟨.inl rfl, by kernel_rfl, by kernel_rfl⟩

/-- impl.structure -/
def pimpl_structure (k : Nat) (e61_ : ByteArray) (i62_ : List GTerm) : Option GTerm :=
  some (GTerm.mk 4 e61_ 0 i62_)
theorem cimpl_structure {k : Nat} {e61_ : ByteArray} {i62_ : List GTerm} {r : GTerm} (h : pimpl_structure k e61_ i62_ = some r) : FnO Try.prog 60 [.v (.str e61_) [], .v (.sl (List.map GTerm.c i62_)) []] (.v (.agg [.int .i64 r.gKind, .str r.gName, .int .i64 r.gNum, .sl (List.map GTerm.c r.gKids)]) []) [] := by
  refine FnO.of Try.func60 (rfl : Try.f60.body = some _) (Nat.le_of_ble_eq_true (by kernel_rfl)) (Nat.le_of_ble_eq_true (by kernel_rfl)) ?_
  intro w0 X0 Fin pv0 pb
  unfold pimpl_structure at h
  refine Wc.seq ?_
  refine Wc.region [] [] [0, 1, 4] [4] [] ⟨[(0, (.v (.str e61_), [])), (1, (.v (.sl (List.map GTerm.c i62_)), [])), (4, (.ptr 4 0, []))], [(4, .cells [.int .i64 0, .str (bs []), .int .i64 0, .sl (List.map GTerm.c [])] [(3, .app 40)])], []⟩ _ (by kernel_rfl) .nil ?_
  refine Wc.seq ?_
  refine Wc.region [] [] [4] [4] [] ⟨[(4, (.ptr 4 0, []))], [(4, .cells [.int .i64 4, .str e61_, .int .i64 0, .sl (List.map GTerm.c i62_)] [])], []⟩ _ (by kernel_rfl) .nil ?_
  refine Wc.ret ?_
  obtain rfl := Option.some.inj h
  exact ⟨.inl rfl, by kernel_rfl, by kernel_rfl⟩

def pimpl_RuleTerm_J2 (k : Nat) (bk_ : Int → GTerm → Option (Out GTerm GTerm)) (b65_ : Int) (d63_ : GRule) (f66_ : GTerm) (f70_ : GTerm) : Option (Out GTerm GTerm) :=
  if (b65_ == (wr.i64 ((d63_.gParts.length : Int) - 1))) = true then
    bk_ (wr.i64 (b65_ - 1)) f70_
  else
    (pimpl_structure k (bs [44]) [f70_, f66_]).bind fun f71_ =>
    bk_ (wr.i64 (b65_ - 1)) f71_
def pimpl_RuleTerm_L1 (k : Nat) (d63_ : GRule) : Nat → Int → GTerm → Option (Out GTerm GTerm)
  | 0, _, _ => none
  | m + 1, b65_, f66_ =>
    if (decide (b65_ ≥ 0)) = true then
      (at' d63_.gParts b65_).bind fun a68_ =>
      (pimpl_atom k a68_.gName).bind fun f69_ =>
      (at' d63_.gParts b65_).bind fun a72_ =>
      if a72_.gWord = true then
        (pimpl_atom k (bs [91, 93])).bind fun f73_ =>
        (pimpl_structure k (bs [46]) [f69_, f73_]).bind fun f74_ =>
        pimpl_RuleTerm_J2 k (pimpl_RuleTerm_L1 k d63_ m) b65_ d63_ f66_ f74_
      else
        pimpl_RuleTerm_J2 k (pimpl_RuleTerm_L1 k d63_ m) b65_ d63_ f66_ f69_
    else
      some (.done f66_)
/-- impl.RuleTerm -/
def pimpl_RuleTerm (k : Nat) (d63_ : GRule) : Option GTerm :=
  (pimpl_atom k (bs [91, 93])).bind fun f64_ =>
  (pimpl_RuleTerm_L1 k d63_ k (wr.i64 ((d63_.gParts.length : Int) - 1)) f64_).bind fun out1 => match out1 with
  | .ret r => some r
  | .done f67_ =>
    (pimpl_atom k d63_.gName).bind fun f75_ =>
    (pimpl_structure k (bs [45, 45, 62]) [f75_, f67_]).bind fun f76_ =>
    some f76_
theorem cimpl_RuleTerm {k : Nat} {d63_ : GRule} {r : GTerm} (h : pimpl_RuleTerm k d63_ = some r) : FnO Try.prog 17 [.v (.agg [.str d63_.gName, .sl (List.map GPart.c d63_.gParts)]) []] (.v (.agg [.int .i64 r.gKind, .str r.gName, .int .i64 r.gNum, .sl (List.map GTerm.c r.gKids)]) []) [] := by
  refine FnO.of Try.func17 (rfl : Try.f17.body = some _) (Nat.le_of_ble_eq_true (by kernel_rfl)) (Nat.le_of_ble_eq_true (by kernel_rfl)) ?_
  intro w0 X0 Fin pv0 pb
  unfold pimpl_RuleTerm at h
  refine Wc.seq ?_
  refine Wc.region [] [] [1, 2] [1, 2] [] ⟨[(1, (.ptr 1 0, [])), (2, (.ptr 2 0, []))], [(1, .cells [.str d63_.gName, .sl (List.map GPart.c d63_.gParts)] []), (2, .cells [.int .i64 0, .str (bs []), .int .i64 0, .sl (List.map GTerm.c [])] [(3, .app 40)])], []⟩ _ (by kernel_rfl) .nil ?_
  refine Wc.seq ?_
  obtain ⟨f64_, h44, h⟩ := obind h
  refine Wc.region [{ r := some (.v (.agg [.int .i64 f64_.gKind, .str f64_.gName, .int .i64 f64_.gNum, .sl (List.map GTerm.c f64_.gKids)]) [(3, .app 40)]) }, {}, { tk := [6] }] [] [1, 2, 3] [1, 2, 3] [] ⟨[(1, (.ptr 1 0, [])), (2, (.ptr 2 0, [])), (3, (.ptr 3 0, []))], [(1, .cells [.str d63_.gName, .sl (List.map GPart.c d63_.gParts)] []), (2, .cells [.int .i64 0, .str (bs []), .int .i64 0, .sl (List.map GTerm.c [])] [(3, .app 40)]), (3, .cells [.int .i64 f64_.gKind, .str f64_.gName, .int .i64 f64_.gNum, .sl (List.map GTerm.c f64_.gKids)] [(3, .app 40)])], []⟩ _ (by kernel_rfl) (.cons (cimpl_atom h44) .nil) ?_
  refine Wc.seq ?_
  refine Wc.seq ?_
  refine Wc.region [{}, {}, { v := some (.int .i64 (d63_.gParts.length : Int)) }] [] [1, 2, 3, 4] [1, 2, 3] [] ⟨[(1, (.ptr 1 0, [])), (2, (.ptr 2 0, [])), (3, (.ptr 3 0, [])), (4, (.v (.int .i64 (wr.i64 ((d63_.gParts.length : Int) - 1))), []))], [(1, .cells [.str d63_.gName, .sl (List.map GPart.c d63_.gParts)] []), (2, .cells [.int .i64 0, .str (bs []), .int .i64 0, .sl (List.map GTerm.c [])] [(3, .app 40)]), (3, .cells [.int .i64 f64_.gKind, .str f64_.gName, .int .i64 f64_.gNum, .sl (List.map GTerm.c f64_.gKids)] [(3, .app 40)])], []⟩ _ (by kernel_rfl) (.cons (len_obl GPart.c d63_.gParts) .nil) ?_
  obtain ⟨out1, h45, h⟩ := obind h
  refine Wc.lastJ (fun st => ∃ (f67_ : GTerm), out1 = .done f67_ ∧ st = ⟨[(1, (.ptr 1 0, [])), (2, (.ptr 2 0, [])), (3, (.ptr 3 0, []))], [(1, .cells [.str d63_.gName, .sl (List.map GPart.c d63_.gParts)] []), (2, .cells [.int .i64 0, .str (bs []), .int .i64 0, .sl (List.map GTerm.c [])] [(3, .app 40)]), (3, .cells [.int .i64 f67_.gKind, .str f67_.gName, .int .i64 f67_.gNum, .sl (List.map GTerm.c f67_.gKids)] [])], []⟩) ?_ ?_
  · refine Wc.block ?_
    refine Wc.fix (st' := ⟨[(1, (.ptr 1 0, [])), (2, (.ptr 2 0, [])), (3, (.ptr 3 0, [])), (4, (.v (.int .i64 (wr.i64 ((d63_.gParts.length : Int) - 1))), []))], [(1, .cells [.str d63_.gName, .sl (List.map GPart.c d63_.gParts)] []), (2, .cells [.int .i64 0, .str (bs []), .int .i64 0, .sl (List.map GTerm.c [])] [(3, .app 40)]), (3, .cells [.int .i64 f64_.gKind, .str f64_.gName, .int .i64 f64_.gNum, .sl (List.map GTerm.c f64_.gKids)] [])], []⟩) [.un (.b 3 3)] [1, 2, 3, 4] [1, 2, 3] [] (by kernel_rfl) ?_
    refine Wc.loop (fun m st => ∃ (b65_ : Int) (f66_ : GTerm), st = ⟨[(1, (.ptr 1 0, [])), (2, (.ptr 2 0, [])), (3, (.ptr 3 0, [])), (4, (.v (.int .i64 b65_), []))], [(1, .cells [.str d63_.gName, .sl (List.map GPart.c d63_.gParts)] []), (2, .cells [.int .i64 0, .str (bs []), .int .i64 0, .sl (List.map GTerm.c [])] [(3, .app 40)]), (3, .cells [.int .i64 f66_.gKind, .str f66_.gName, .int .i64 f66_.gNum, .sl (List.map GTerm.c f66_.gKids)] [])], []⟩ ∧ pimpl_RuleTerm_L1 k d63_ m b65_ f66_ = some out1) ?_ k ⟨_, _, rfl, h45⟩
    rintro m st ⟨b65_, f66_, rfl, h45⟩
    cases m with
    | zero => exact (onone h45).elim
    | succ m =>
      refine Wc.seq ?_
      refine Wc.seq ?_
      refine Wc.region [] [] [1, 2, 3, 4, 12] [1, 2, 3] [] ⟨[(1, (.ptr 1 0, [])), (2, (.ptr 2 0, [])), (3, (.ptr 3 0, [])), (4, (.v (.int .i64 b65_), [])), (12, (.v (.bool (decide (b65_ ≥ 0))), []))], [(1, .cells [.str d63_.gName, .sl (List.map GPart.c d63_.gParts)] []), (2, .cells [.int .i64 0, .str (bs []), .int .i64 0, .sl (List.map GTerm.c [])] [(3, .app 40)]), (3, .cells [.int .i64 f66_.gKind, .str f66_.gName, .int .i64 f66_.gNum, .sl (List.map GTerm.c f66_.gKids)] [])], []⟩ _ (by kernel_rfl) .nil ?_
      rcases oif h45 with ⟨h46, h45⟩ | ⟨h46, h45⟩
      · refine Wc.condT h46 (by kernel_rfl) ?_
        refine Wc.fix (st' := ⟨[(1, (.ptr 1 0, [])), (2, (.ptr 2 0, [])), (3, (.ptr 3 0, [])), (4, (.v (.int .i64 b65_), []))], [(1, .cells [.str d63_.gName, .sl (List.map GPart.c d63_.gParts)] []), (2, .cells [.int .i64 0, .str (bs []), .int .i64 0, .sl (List.map GTerm.c [])] [(3, .app 40)]), (3, .cells [.int .i64 f66_.gKind, .str f66_.gName, .int .i64 f66_.gNum, .sl (List.map GTerm.c f66_.gKids)] [])], []⟩) [] [1, 2, 3, 4] [1, 2, 3] [] (by kernel_rfl) ?_
        refine Wc.skip ?_
        refine Wc.seq ?_
        refine Wc.block ?_
        refine Wc.seq ?_
        obtain ⟨a68_, h47, h45⟩ := obind h45
        obtain ⟨f69_, h48, h45⟩ := obind h45
        refine Wc.region [{}, {}, {}, { v := some (.vptr [.bool a68_.gWord, .str a68_.gName]) }, {}, {}, { r := some (.v (.agg [.int .i64 f69_.gKind, .str f69_.gName, .int .i64 f69_.gNum, .sl (List.map GTerm.c f69_.gKids)]) [(3, .app 40)]) }, {}, { tk := [21] }] [] [1, 2, 3, 4, 5] [1, 2, 3, 5] [] ⟨[(1, (.ptr 1 0, [])), (2, (.ptr 2 0, [])), (3, (.ptr 3 0, [])), (4, (.v (.int .i64 b65_), [])), (5, (.ptr 5 0, []))], [(1, .cells [.str d63_.gName, .sl (List.map GPart.c d63_.gParts)] []), (2, .cells [.int .i64 0, .str (bs []), .int .i64 0, .sl (List.map GTerm.c [])] [(3, .app 40)]), (3, .cells [.int .i64 f66_.gKind, .str f66_.gName, .int .i64 f66_.gNum, .sl (List.map GTerm.c f66_.gKids)] []), (5, .cells [.int .i64 f69_.gKind, .str f69_.gName, .int .i64 f69_.gNum, .sl (List.map GTerm.c f69_.gKids)] [(3, .app 40)])], []⟩ _ (by kernel_rfl) (.cons (at_obl (c := GPart.c) (GPart.c_eq a68_) GPart.c_len h47) (.cons (len_ok 1 [.str a68_.gName]) (.cons (cimpl_atom h48) .nil))) ?_
        refine Wc.seqJ (fun st => ∃ (f70_ : GTerm), st = ⟨[(1, (.ptr 1 0, [])), (2, (.ptr 2 0, [])), (3, (.ptr 3 0, [])), (4, (.v (.int .i64 b65_), [])), (5, (.ptr 5 0, []))], [(1, .cells [.str d63_.gName, .sl (List.map GPart.c d63_.gParts)] []), (2, .cells [.int .i64 0, .str (bs []), .int .i64 0, .sl (List.map GTerm.c [])] [(3, .app 40)]), (3, .cells [.int .i64 f66_.gKind, .str f66_.gName, .int .i64 f66_.gNum, .sl (List.map GTerm.c f66_.gKids)] []), (5, .cells [.int .i64 f70_.gKind, .str f70_.gName, .int .i64 f70_.gNum, .sl (List.map GTerm.c f70_.gKids)] [])], []⟩ ∧ pimpl_RuleTerm_J2 k (pimpl_RuleTerm_L1 k d63_ m) b65_ d63_ f66_ f70_ = some out1) ?_ ?_
        · refine Wc.seq ?_
          obtain ⟨a72_, h51, h45⟩ := obind h45
          refine Wc.region [{}, {}, {}, { v := some (.vptr [.bool a72_.gWord, .str a72_.gName]) }] [] [1, 2, 3, 4, 5, 27] [1, 2, 3, 5] [] ⟨[(1, (.ptr 1 0, [])), (2, (.ptr 2 0, [])), (3, (.ptr 3 0, [])), (4, (.v (.int .i64 b65_), [])), (5, (.ptr 5 0, [])), (27, (.v (.bool a72_.gWord), []))], [(1, .cells [.str d63_.gName, .sl (List.map GPart.c d63_.gParts)] []), (2, .cells [.int .i64 0, .str (bs []), .int .i64 0, .sl (List.map GTerm.c [])] [(3, .app 40)]), (3, .cells [.int .i64 f66_.gKind, .str f66_.gName, .int .i64 f66_.gNum, .sl (List.map GTerm.c f66_.gKids)] []), (5, .cells [.int .i64 f69_.gKind, .str f69_.gName, .int .i64 f69_.gNum, .sl (List.map GTerm.c f69_.gKids)] [(3, .app 40)])], []⟩ _ (by kernel_rfl) (.cons (at_obl (c := GPart.c) (GPart.c_eq a72_) GPart.c_len h51) (.cons (len_ok 1 [.bool a72_.gWord, .str a72_.gName]) .nil)) ?_
          rcases oif h45 with ⟨h52, h45⟩ | ⟨h52, h45⟩
          · refine Wc.condT h52 (by kernel_rfl) ?_
            obtain ⟨f73_, h53, h45⟩ := obind h45
            obtain ⟨f74_, h54, h45⟩ := obind h45
            refine Wc.draw hmix [{}, { r := some (.v (.agg [.int .i64 f73_.gKind, .str f73_.gName, .int .i64 f73_.gNum, .sl (List.map GTerm.c f73_.gKids)]) [(3, .app 40)]) }, { c := some (List.map GTerm.c [f69_, f73_]) }, { r := some (.v (.agg [.int .i64 f74_.gKind, .str f74_.gName, .int .i64 f74_.gNum, .sl (List.map GTerm.c f74_.gKids)]) []) }] [] [1, 2, 3, 4, 5] [1, 2, 3, 5] [] ⟨[(1, (.ptr 1 0, [])), (2, (.ptr 2 0, [])), (3, (.ptr 3 0, [])), (4, (.v (.int .i64 b65_), [])), (5, (.ptr 5 0, []))], [(1, .cells [.str d63_.gName, .sl (List.map GPart.c d63_.gParts)] []), (2, .cells [.int .i64 0, .str (bs []), .int .i64 0, .sl (List.map GTerm.c [])] [(3, .app 40)]), (3, .cells [.int .i64 f66_.gKind, .str f66_.gName, .int .i64 f66_.gNum, .sl (List.map GTerm.c f66_.gKids)] []), (5, .cells [.int .i64 f74_.gKind, .str f74_.gName, .int .i64 f74_.gNum, .sl (List.map GTerm.c f74_.gKids)] [])], []⟩ _ (by kernel_rfl) (fun X => by kernel_rfl) (.cons (cimpl_atom h53) (.cons (cl_cons (c := GTerm.c) (x := f69_) (GTerm.c_eq f69_) (cl_cons (c := GTerm.c) (x := f73_) (GTerm.c_eq f73_) (cl_nil GTerm.c))) (.cons (cimpl_structure h54) .nil))) ?_
            exact ⟨_, rfl, h45⟩
          · refine Wc.condF h52 (by kernel_rfl) ?_
            refine Wc.fix (st' := ⟨[(1, (.ptr 1 0, [])), (2, (.ptr 2 0, [])), (3, (.ptr 3 0, [])), (4, (.v (.int .i64 b65_), [])), (5, (.ptr 5 0, []))], [(1, .cells [.str d63_.gName, .sl (List.map GPart.c d63_.gParts)] []), (2, .cells [.int .i64 0, .str (bs []), .int .i64 0, .sl (List.map GTerm.c [])] [(3, .app 40)]), (3, .cells [.int .i64 f66_.gKind, .str f66_.gName, .int .i64 f66_.gNum, .sl (List.map GTerm.c f66_.gKids)] []), (5, .cells [.int .i64 f69_.gKind, .str f69_.gName, .int .i64 f69_.gNum, .sl (List.map GTerm.c f69_.gKids)] [])], []⟩) [.un (.b 5 3)] [1, 2, 3, 4, 5] [1, 2, 3, 5] [] (by kernel_rfl) ?_
            refine Wc.skip ?_
            exact ⟨_, rfl, h45⟩
        · rintro st ⟨f70_, rfl, h45⟩
          refine Wc.seq ?_
          refine Wc.region [{}, {}, {}, { v := some (.int .i64 (d63_.gParts.length : Int)) }] [] [1, 2, 3, 4, 5, 37] [1, 2, 3, 5] [] ⟨[(1, (.ptr 1 0, [])), (2, (.ptr 2 0, [])), (3, (.ptr 3 0, [])), (4, (.v (.int .i64 b65_), [])), (5, (.ptr 5 0, [])), (37, (.v (.bool (b65_ == (wr.i64 ((d63_.gParts.length : Int) - 1)))), []))], [(1, .cells [.str d63_.gName, .sl (List.map GPart.c d63_.gParts)] []), (2, .cells [.int .i64 0, .str (bs []), .int .i64 0, .sl (List.map GTerm.c [])] [(3, .app 40)]), (3, .cells [.int .i64 f66_.gKind, .str f66_.gName, .int .i64 f66_.gNum, .sl (List.map GTerm.c f66_.gKids)] []), (5, .cells [.int .i64 f70_.gKind, .str f70_.gName, .int .i64 f70_.gNum, .sl (List.map GTerm.c f70_.gKids)] [])], []⟩ _ (by kernel_rfl) (.cons (len_obl GPart.c d63_.gParts) .nil) ?_
          rcases oif h45 with ⟨h49, h45⟩ | ⟨h49, h45⟩
          · refine Wc.condT h49 (by kernel_rfl) ?_
            refine Wc.region [] [] [1, 2, 3, 4] [1, 2, 3] [] ⟨[(1, (.ptr 1 0, [])), (2, (.ptr 2 0, [])), (3, (.ptr 3 0, [])), (4, (.v (.int .i64 b65_), []))], [(1, .cells [.str d63_.gName, .sl (List.map GPart.c d63_.gParts)] []), (2, .cells [.int .i64 0, .str (bs []), .int .i64 0, .sl (List.map GTerm.c [])] [(3, .app 40)]), (3, .cells [.int .i64 f70_.gKind, .str f70_.gName, .int .i64 f70_.gNum, .sl (List.map GTerm.c f70_.gKids)] [])], []⟩ _ (by kernel_rfl) .nil ?_
            refine Wc.region [] [] [1, 2, 3, 4] [1, 2, 3] [] ⟨[(1, (.ptr 1 0, [])), (2, (.ptr 2 0, [])), (3, (.ptr 3 0, [])), (4, (.v (.int .i64 (wr.i64 (b65_ - 1))), []))], [(1, .cells [.str d63_.gName, .sl (List.map GPart.c d63_.gParts)] []), (2, .cells [.int .i64 0, .str (bs []), .int .i64 0, .sl (List.map GTerm.c [])] [(3, .app 40)]), (3, .cells [.int .i64 f70_.gKind, .str f70_.gName, .int .i64 f70_.gNum, .sl (List.map GTerm.c f70_.gKids)] [])], []⟩ _ (by kernel_rfl) .nil ?_
            exact ⟨_, Nat.lt_succ_self _, _, _, rfl, h45⟩
          · refine Wc.condF h49 (by kernel_rfl) ?_
            obtain ⟨f71_, h50, h45⟩ := obind h45
            refine Wc.region [{}, {}, { c := some (List.map GTerm.c [f70_, f66_]) }, { r := some (.v (.agg [.int .i64 f71_.gKind, .str f71_.gName, .int .i64 f71_.gNum, .sl (List.map GTerm.c f71_.gKids)]) []) }] [] [1, 2, 3, 4] [1, 2, 3] [] ⟨[(1, (.ptr 1 0, [])), (2, (.ptr 2 0, [])), (3, (.ptr 3 0, [])), (4, (.v (.int .i64 b65_), []))], [(1, .cells [.str d63_.gName, .sl (List.map GPart.c d63_.gParts)] []), (2, .cells [.int .i64 0, .str (bs []), .int .i64 0, .sl (List.map GTerm.c [])] [(3, .app 40)]), (3, .cells [.int .i64 f71_.gKind, .str f71_.gName, .int .i64 f71_.gNum, .sl (List.map GTerm.c f71_.gKids)] [])], []⟩ _ (by kernel_rfl) (.cons (cl_cons (c := GTerm.c) (x := f70_) (GTerm.c_eq f70_) (cl_cons (c := GTerm.c) (x := f66_) (GTerm.c_eq f66_) (cl_nil GTerm.c))) (.cons (cimpl_structure h50) .nil)) ?_
            refine Wc.region [] [] [1, 2, 3, 4] [1, 2, 3] [] ⟨[(1, (.ptr 1 0, [])), (2, (.ptr 2 0, [])), (3, (.ptr 3 0, [])), (4, (.v (.int .i64 (wr.i64 (b65_ - 1))), []))], [(1, .cells [.str d63_.gName, .sl (List.map GPart.c d63_.gParts)] []), (2, .cells [.int .i64 0, .str (bs []), .int .i64 0, .sl (List.map GTerm.c [])] [(3, .app 40)]), (3, .cells [.int .i64 f71_.gKind, .str f71_.gName, .int .i64 f71_.gNum, .sl (List.map GTerm.c f71_.gKids)] [])], []⟩ _ (by kernel_rfl) .nil ?_
            exact ⟨_, Nat.lt_succ_self _, _, _, rfl, h45⟩
      · refine Wc.condF h46 (by kernel_rfl) ?_
        refine Wc.fix (st' := ⟨[(1, (.ptr 1 0, [])), (2, (.ptr 2 0, [])), (3, (.ptr 3 0, []))], [(1, .cells [.str d63_.gName, .sl (List.map GPart.c d63_.gParts)] []), (2, .cells [.int .i64 0, .str (bs []), .int .i64 0, .sl (List.map GTerm.c [])] [(3, .app 40)]), (3, .cells [.int .i64 f66_.gKind, .str f66_.gName, .int .i64 f66_.gNum, .sl (List.map GTerm.c f66_.gKids)] [])], []⟩) [] [1, 2, 3] [1, 2, 3] [] (by kernel_rfl) ?_
        refine Wc.exit ?_
        obtain rfl := Option.some.inj h45
        exact ⟨_, rfl, rfl⟩
  · rintro st ⟨f67_, rfl, rfl⟩
    refine Wc.seq ?_
    obtain ⟨f75_, h55, h⟩ := obind h
    obtain ⟨f76_, h56, h⟩ := obind h
    refine Wc.draw hmix [{}, {}, { r := some (.v (.agg [.int .i64 f75_.gKind, .str f75_.gName, .int .i64 f75_.gNum, .sl (List.map GTerm.c f75_.gKids)]) [(3, .app 40)]) }, {}, { c := some (List.map GTerm.c [f75_, f67_]) }, { r := some (.v (.agg [.int .i64 f76_.gKind, .str f76_.gName, .int .i64 f76_.gNum, .sl (List.map GTerm.c f76_.gKids)]) []) }] [] [2] [2] [] ⟨[(2, (.ptr 2 0, []))], [(2, .cells [.int .i64 f76_.gKind, .str f76_.gName, .int .i64 f76_.gNum, .sl (List.map GTerm.c f76_.gKids)] [])], []⟩ _ (by kernel_rfl) (fun X => by kernel_rfl) (.cons (cimpl_atom h55) (.cons (cl_cons (c := GTerm.c) (x := f75_) (GTerm.c_eq f75_) (cl_cons (c := GTerm.c) (x := f67_) (GTerm.c_eq f67_) (cl_nil GTerm.c))) (.cons (cimpl_structure h56) .nil))) ?_
    refine Wc.ret ?_
    obtain rfl := Option.some.inj h
    exact ⟨.inl rfl, by kernel_rfl, by kernel_rfl⟩

def plaws_eqTermS_L1 (k : Nat) (rlaws_eqTerm : GTerm → GTerm → Option Bool) (rlaws_eqTermS : (List GTerm) → (List GTerm) → Option Bool) (i80_ : List GTerm) (i81_ : List GTerm) : Nat → Int → Option (Out Bool Unit)
  | 0, _ => none
  | m + 1, b82_ =>
    if (decide (b82_ < (i80_.length : Int))) = true then
      (at' i80_ b82_).bind fun f83_ =>
      (at' i81_ b82_).bind fun f84_ =>
      (rlaws_eqTerm f83_ f84_).bind fun j85_ =>
      if (!j85_) = true then
        some (.ret false)
      else
        plaws_eqTermS_L1 k rlaws_eqTerm rlaws_eqTermS i80_ i81_ m (wr.i64 (b82_ + 1))
    else
      some (.done ())
mutual
/-- laws.eqTerm -/
def plaws_eqTerm : Nat → GTerm → GTerm → Option Bool
  | 0, _, _ => none
  | k + 1, f77_, f78_ =>
    if (f77_.gKind != f78_.gKind) = true then
      some false
    else
      if (!(sEq f77_.gName f78_.gName)) = true then
        some false
      else
        if (f77_.gNum != f78_.gNum) = true then
          some false
        else
          (plaws_eqTermS k f77_.gKids f78_.gKids).bind fun j79_ =>
          if (!j79_) = true then
            some false
          else
            some true
/-- laws.eqTermS -/
def plaws_eqTermS : Nat → (List GTerm) → (List GTerm) → Option Bool
  | 0, _, _ => none
  | k + 1, i80_, i81_ =>
    if ((i80_.length : Int) != (i81_.length : Int)) = true then
      some false
    else
      (plaws_eqTermS_L1 k (plaws_eqTerm k) (plaws_eqTermS k) i80_ i81_ k 0).bind fun out1 => match out1 with
      | .ret r => some r
      | .done () =>
        some true
end
theorem all_plaws_eqTerm : ∀ k : Nat, (∀ {f77_ : GTerm} {f78_ : GTerm} {r : Bool}, plaws_eqTerm k f77_ f78_ = some r → FnO Try.prog 18 [.v (.agg [.int .i64 f77_.gKind, .str f77_.gName, .int .i64 f77_.gNum, .sl (List.map GTerm.c f77_.gKids)]) [], .v (.agg [.int .i64 f78_.gKind, .str f78_.gName, .int .i64 f78_.gNum, .sl (List.map GTerm.c f78_.gKids)]) []] (.v (.bool r) []) []) ∧
    (∀ {i80_ : List GTerm} {i81_ : List GTerm} {r : Bool}, plaws_eqTermS k i80_ i81_ = some r → FnO Try.prog 37 [.v (.sl (List.map GTerm.c i80_)) [], .v (.sl (List.map GTerm.c i81_)) []] (.v (.bool r) []) []) := by
  intro k
  induction k with
  | zero =>
    refine ⟨?_, ?_⟩
    · intro f77_ f78_ r h
      exact (onone (by rw [plaws_eqTerm] at h; exact h)).elim
    · intro i80_ i81_ r h
      exact (onone (by rw [plaws_eqTermS] at h; exact h)).elim
  | succ k ih =>
    obtain ⟨ih_plaws_eqTerm, ih_plaws_eqTermS⟩ := ih
    refine ⟨?_, ?_⟩
    · intro f77_ f78_ r h
      rw [plaws_eqTerm] at h
      refine FnO.of Try.func18 (rfl : Try.f18.body = some _) (Nat.le_of_ble_eq_true (by kernel_rfl)) (Nat.le_of_ble_eq_true (by kernel_rfl)) ?_
      intro w0 X0 Fin pv0 pb
      refine Wc.seq ?_
      refine Wc.region [] [] [2, 3] [2, 3] [] ⟨[(2, (.ptr 2 0, [])), (3, (.ptr 3 0, []))], [(2, .cells [.int .i64 f77_.gKind, .str f77_.gName, .int .i64 f77_.gNum, .sl (List.map GTerm.c f77_.gKids)] []), (3, .cells [.int .i64 f78_.gKind, .str f78_.gName, .int .i64 f78_.gNum, .sl (List.map GTerm.c f78_.gKids)] [])], []⟩ _ (by kernel_rfl) .nil ?_
      refine Wc.seq ?_
      refine Wc.seq ?_
      refine Wc.region [] [] [2, 3, 9] [2, 3] [] ⟨[(2, (.ptr 2 0, [])), (3, (.ptr 3 0, [])), (9, (.v (.bool (f77_.gKind != f78_.gKind)), []))], [(2, .cells [.int .i64 f77_.gKind, .str f77_.gName, .int .i64 f77_.gNum, .sl (List.map GTerm.c f77_.gKids)] []), (3, .cells [.int .i64 f78_.gKind, .str f78_.gName, .int .i64 f78_.gNum, .sl (List.map GTerm.c f78_.gKids)] [])], []⟩ _ (by kernel_rfl) .nil ?_
      rcases oif h with ⟨h57, h⟩ | ⟨h57, h⟩
      · refine Wc.condT h57 (by kernel_rfl) ?_
        refine Wc.seq ?_
        refine Wc.region [] [] [4] [] [] ⟨[(4, (.v (.bool false), []))], [], []⟩ _ (by kernel_rfl) .nil ?_
        refine Wc.ret ?_
        obtain rfl := Option.some.inj h
        exact ⟨.inl rfl, by kernel_rfl, by kernel_rfl⟩
      · refine Wc.condF h57 (by kernel_rfl) ?_
        refine Wc.fix (st' := ⟨[(2, (.ptr 2 0, [])), (3, (.ptr 3 0, []))], [(2, .cells [.int .i64 f77_.gKind, .str f77_.gName, .int .i64 f77_.gNum, .sl (List.map GTerm.c f77_.gKids)] []), (3, .cells [.int .i64 f78_.gKind, .str f78_.gName, .int .i64 f78_.gNum, .sl (List.map GTerm.c f78_.gKids)] [])], []⟩) [] [2, 3] [2, 3] [] (by kernel_rfl) ?_
        refine Wc.skip ?_
        refine Wc.seq ?_
        refine Wc.seq ?_
        refine Wc.region [] [] [2, 3, 14] [2, 3] [] ⟨[(2, (.ptr 2 0, [])), (3, (.ptr 3 0, [])), (14, (.v (.bool (!(sEq f77_.gName f78_.gName))), []))], [(2, .cells [.int .i64 f77_.gKind, .str f77_.gName, .int .i64 f77_.gNum, .sl (List.map GTerm.c f77_.gKids)] []), (3, .cells [.int .i64 f78_.gKind, .str f78_.gName, .int .i64 f78_.gNum, .sl (List.map GTerm.c f78_.gKids)] [])], []⟩ _ (by kernel_rfl) .nil ?_
        rcases oif h with ⟨h58, h⟩ | ⟨h58, h⟩
        · refine Wc.condT h58 (by kernel_rfl) ?_
          refine Wc.seq ?_
          refine Wc.region [] [] [4] [] [] ⟨[(4, (.v (.bool false), []))], [], []⟩ _ (by kernel_rfl) .nil ?_
          refine Wc.ret ?_
          obtain rfl := Option.some.inj h
          exact ⟨.inl rfl, by kernel_rfl, by kernel_rfl⟩
        · refine Wc.condF h58 (by kernel_rfl) ?_
          refine Wc.fix (st' := ⟨[(2, (.ptr 2 0, [])), (3, (.ptr 3 0, []))], [(2, .cells [.int .i64 f77_.gKind, .str f77_.gName, .int .i64 f77_.gNum, .sl (List.map GTerm.c f77_.gKids)] []), (3, .cells [.int .i64 f78_.gKind, .str f78_.gName, .int .i64 f78_.gNum, .sl (List.map GTerm.c f78_.gKids)] [])], []⟩) [] [2, 3] [2, 3] [] (by kernel_rfl) ?_
          refine Wc.skip ?_
          refine Wc.seq ?_
          refine Wc.seq ?_
          refine Wc.region [] [] [2, 3, 19] [2, 3] [] ⟨[(2, (.ptr 2 0, [])), (3, (.ptr 3 0, [])), (19, (.v (.bool (f77_.gNum != f78_.gNum)), []))], [(2, .cells [.int .i64 f77_.gKind, .str f77_.gName, .int .i64 f77_.gNum, .sl (List.map GTerm.c f77_.gKids)] []), (3, .cells [.int .i64 f78_.gKind, .str f78_.gName, .int .i64 f78_.gNum, .sl (List.map GTerm.c f78_.gKids)] [])], []⟩ _ (by kernel_rfl) .nil ?_
          rcases oif h with ⟨h59, h⟩ | ⟨h59, h⟩
          · refine Wc.condT h59 (by kernel_rfl) ?_
            refine Wc.seq ?_
            refine Wc.region [] [] [4] [] [] ⟨[(4, (.v (.bool false), []))], [], []⟩ _ (by kernel_rfl) .nil ?_
            refine Wc.ret ?_
            obtain rfl := Option.some.inj h
            exact ⟨.inl rfl, by kernel_rfl, by kernel_rfl⟩
          · refine Wc.condF h59 (by kernel_rfl) ?_
            refine Wc.fix (st' := ⟨[(2, (.ptr 2 0, [])), (3, (.ptr 3 0, []))], [(2, .cells [.int .i64 f77_.gKind, .str f77_.gName, .int .i64 f77_.gNum, .sl (List.map GTerm.c f77_.gKids)] []), (3, .cells [.int .i64 f78_.gKind, .str f78_.gName, .int .i64 f78_.gNum, .sl (List.map GTerm.c f78_.gKids)] [])], []⟩) [] [2, 3] [2, 3] [] (by kernel_rfl) ?_
            refine Wc.skip ?_
            refine Wc.seq ?_
            refine Wc.seq ?_
            obtain ⟨j79_, h60, h⟩ := obind h
            refine Wc.region [{}, {}, {}, {}, { r := some (.v (.bool j79_) []) }] [] [25] [] [] ⟨[(25, (.v (.bool (!j79_)), []))], [], []⟩ _ (by kernel_rfl) (.cons (ih_plaws_eqTermS h60) .nil) ?_
            rcases oif h with ⟨h61, h⟩ | ⟨h61, h⟩
            · refine Wc.condT h61 (by kernel_rfl) ?_
              refine Wc.seq ?_
              refine Wc.region [] [] [4] [] [] ⟨[(4, (.v (.bool false), []))], [], []⟩ _ (by kernel_rfl) .nil ?_
              refine Wc.ret ?_
              obtain rfl := Option.some.inj h
              exact ⟨.inl rfl, by kernel_rfl, by kernel_rfl⟩
            · refine Wc.condF h61 (by kernel_rfl) ?_
              refine Wc.fix (st' := ⟨[], [], []⟩) [] [] [] [] (by kernel_rfl) ?_
              refine Wc.skip ?_
              refine Wc.seq ?_
              refine Wc.region [] [] [4] [] [] ⟨[(4, (.v (.bool true), []))], [], []⟩ _ (by kernel_rfl) .nil ?_
              refine Wc.ret ?_
              obtain rfl := Option.some.inj h
              exact ⟨.inl rfl, by kernel_rfl, by kernel_rfl⟩
    · intro i80_ i81_ r h
      rw [plaws_eqTermS] at h
      refine FnO.of Try.func37 (rfl : Try.f37.body = some _) (Nat.le_of_ble_eq_true (by kernel_rfl)) (Nat.le_of_ble_eq_true (by kernel_rfl)) ?_
      intro w0 X0 Fin pv0 pb
      refine Wc.seq ?_
      refine Wc.region [] [] [0, 1] [] [] ⟨[(0, (.v (.sl (List.map GTerm.c i80_)), [])), (1, (.v (.sl (List.map GTerm.c i81_)), []))], [], []⟩ _ (by kernel_rfl) .nil ?_
      refine Wc.seq ?_
      refine Wc.seq ?_
      refine Wc.region [{}, { v := some (.int .i64 (i80_.length : Int)) }, {}, { v := some (.int .i64 (i81_.length : Int)) }] [] [0, 1, 10] [] [] ⟨[(0, (.v (.sl (List.map GTerm.c i80_)), [])), (1, (.v (.sl (List.map GTerm.c i81_)), [])), (10, (.v (.bool ((i80_.length : Int) != (i81_.length : Int))), []))], [], []⟩ _ (by kernel_rfl) (.cons (len_obl GTerm.c i80_) (.cons (len_obl GTerm.c i81_) .nil)) ?_
      rcases oif h with ⟨h62, h⟩ | ⟨h62, h⟩
      · refine Wc.condT h62 (by kernel_rfl) ?_
        refine Wc.seq ?_
        refine Wc.region [] [] [4] [] [] ⟨[(4, (.v (.bool false), []))], [], []⟩ _ (by kernel_rfl) .nil ?_
        refine Wc.ret ?_
        obtain rfl := Option.some.inj h
        exact ⟨.inl rfl, by kernel_rfl, by kernel_rfl⟩
      · refine Wc.condF h62 (by kernel_rfl) ?_
        refine Wc.fix (st' := ⟨[(0, (.v (.sl (List.map GTerm.c i80_)), [])), (1, (.v (.sl (List.map GTerm.c i81_)), []))], [], []⟩) [] [0, 1] [] [] (by kernel_rfl) ?_
        refine Wc.skip ?_
        refine Wc.seq ?_
        refine Wc.seq ?_
        refine Wc.region [] [] [0, 1, 5] [] [] ⟨[(0, (.v (.sl (List.map GTerm.c i80_)), [])), (1, (.v (.sl (List.map GTerm.c i81_)), [])), (5, (.v (.int .i64 0), []))], [], []⟩ _ (by kernel_rfl) .nil ?_
        obtain ⟨out1, h63, h⟩ := obind h
        refine Wc.lastJ (fun st => out1 = .done () ∧ st = ⟨[], [], []⟩) ?_ ?_
        · refine Wc.block ?_
          refine Wc.loop (fun m st => ∃ (b82_ : Int), st = ⟨[(0, (.v (.sl (List.map GTerm.c i80_)), [])), (1, (.v (.sl (List.map GTerm.c i81_)), [])), (5, (.v (.int .i64 b82_), []))], [], []⟩ ∧ plaws_eqTermS_L1 k (plaws_eqTerm k) (plaws_eqTermS k) i80_ i81_ m b82_ = some out1) ?_ k ⟨_, rfl, h63⟩
          rintro m st ⟨b82_, rfl, h63⟩
          cases m with
          | zero => exact (onone h63).elim
          | succ m =>
            refine Wc.seq ?_
            refine Wc.seq ?_
            refine Wc.region [{}, {}, { v := some (.int .i64 (i80_.length : Int)) }] [] [0, 1, 5, 14] [] [] ⟨[(0, (.v (.sl (List.map GTerm.c i80_)), [])), (1, (.v (.sl (List.map GTerm.c i81_)), [])), (5, (.v (.int .i64 b82_), [])), (14, (.v (.bool (decide (b82_ < (i80_.length : Int)))), []))], [], []⟩ _ (by kernel_rfl) (.cons (len_obl GTerm.c i80_) .nil) ?_
            rcases oif h63 with ⟨h64, h63⟩ | ⟨h64, h63⟩
            · refine Wc.condT h64 (by kernel_rfl) ?_
              refine Wc.fix (st' := ⟨[(0, (.v (.sl (List.map GTerm.c i80_)), [])), (1, (.v (.sl (List.map GTerm.c i81_)), [])), (5, (.v (.int .i64 b82_), []))], [], []⟩) [] [0, 1, 5] [] [] (by kernel_rfl) ?_
              refine Wc.skip ?_
              refine Wc.seq ?_
              refine Wc.block ?_
              refine Wc.seq ?_
              obtain ⟨f83_, h65, h63⟩ := obind h63
              obtain ⟨f84_, h66, h63⟩ := obind h63
              obtain ⟨j85_, h67, h63⟩ := obind h63
              refine Wc.draw hmix [{}, {}, { v := some (.vptr [.int .i64 f83_.gKind, .str f83_.gName, .int .i64 f83_.gNum, .sl (List.map GTerm.c f83_.gKids)]) }, {}, {}, {}, { v := some (.vptr [.int .i64 f84_.gKind, .str f84_.gName, .int .i64 f84_.gNum, .sl (List.map GTerm.c f84_.gKids)]) }, {}, { r := some (.v (.bool j85_) []) }] [] [0, 1, 5, 26] [] [] ⟨[(0, (.v (.sl (List.map GTerm.c i80_)), [])), (1, (.v (.sl (List.map GTerm.c i81_)), [])), (5, (.v (.int .i64 b82_), [])), (26, (.v (.bool (!j85_)), []))], [], []⟩ _ (by kernel_rfl) (fun X => by kernel_rfl) (.cons (at_obl (c := GTerm.c) (GTerm.c_eq f83_) GTerm.c_len h65) (.cons (len_ok 4 [.int .i64 f83_.gKind, .str f83_.gName, .int .i64 f83_.gNum, .sl (List.map GTerm.c f83_.gKids)]) (.cons (at_obl (c := GTerm.c) (GTerm.c_eq f84_) GTerm.c_len h66) (.cons (len_ok 4 [.int .i64 f84_.gKind, .str f84_.gName, .int .i64 f84_.gNum, .sl (List.map GTerm.c f84_.gKids)]) (.cons (ih_plaws_eqTerm h67) .nil))))) ?_
              rcases oif h63 with ⟨h68, h63⟩ | ⟨h68, h63⟩
              · refine Wc.condT h68 (by kernel_rfl) ?_
                refine Wc.seq ?_
                refine Wc.region [] [] [4] [] [] ⟨[(4, (.v (.bool false), []))], [], []⟩ _ (by kernel_rfl) .nil ?_
                refine Wc.ret ?_
                obtain rfl := Option.some.inj h63
                obtain rfl := Option.some.inj h
                exact ⟨.inl rfl, by kernel_rfl, by kernel_rfl⟩
              · refine Wc.condF h68 (by kernel_rfl) ?_
                refine Wc.fix (st' := ⟨[(0, (.v (.sl (List.map GTerm.c i80_)), [])), (1, (.v (.sl (List.map GTerm.c i81_)), [])), (5, (.v (.int .i64 b82_), []))], [], []⟩) [] [0, 1, 5] [] [] (by kernel_rfl) ?_
                refine Wc.skip ?_
                refine Wc.region [] [] [0, 1, 5] [] [] ⟨[(0, (.v (.sl (List.map GTerm.c i80_)), [])), (1, (.v (.sl (List.map GTerm.c i81_)), [])), (5, (.v (.int .i64 (wr.i64 (b82_ + 1))), []))], [], []⟩ _ (by kernel_rfl) .nil ?_
                exact ⟨_, Nat.lt_succ_self _, _, rfl, h63⟩
            · refine Wc.condF h64 (by kernel_rfl) ?_
              refine Wc.fix (st' := ⟨[], [], []⟩) [] [] [] [] (by kernel_rfl) ?_
              refine Wc.exit ?_
              obtain rfl := Option.some.inj h63
              exact ⟨rfl, rfl⟩
        · rintro st ⟨rfl, rfl⟩
          refine Wc.seq ?_
          refine Wc.region [] [] [4] [] [] ⟨[(4, (.v (.bool true), []))], [], []⟩ _ (by kernel_rfl) .nil ?_
          refine Wc.ret ?_
          obtain rfl := Option.some.inj h
          exact ⟨.inl rfl, by kernel_rfl, by kernel_rfl⟩
theorem claws_eqTerm {k : Nat} {f77_ : GTerm} {f78_ : GTerm} {r : Bool} (h : plaws_eqTerm k f77_ f78_ = some r) : FnO Try.prog 18 [.v (.agg [.int .i64 f77_.gKind, .str f77_.gName, .int .i64 f77_.gNum, .sl (List.map GTerm.c f77_.gKids)]) [], .v (.agg [.int .i64 f78_.gKind, .str f78_.gName, .int .i64 f78_.gNum, .sl (List.map GTerm.c f78_.gKids)]) []] (.v (.bool r) []) [] := (all_plaws_eqTerm k).1 h
theorem claws_eqTermS {k : Nat} {i80_ : List GTerm} {i81_ : List GTerm} {r : Bool} (h : plaws_eqTermS k i80_ i81_ = some r) : FnO Try.prog 37 [.v (.sl (List.map GTerm.c i80_)) [], .v (.sl (List.map GTerm.c i81_)) []] (.v (.bool r) []) [] := (all_plaws_eqTerm k).2 h

/-- laws.eqPart -/
def plaws_eqPart (k : Nat) (a86_ : GPart) (a87_ : GPart) : Option Bool :=
  if (!(a86_.gWord == a87_.gWord)) = true then
    some false
  else
    if (!(sEq a86_.gName a87_.gName)) = true then
      some false
    else
      some true
theorem claws_eqPart {k : Nat} {a86_ : GPart} {a87_ : GPart} {r : Bool} (h : plaws_eqPart k a86_ a87_ = some r) : FnO Try.prog 90 [.v (.agg [.bool a86_.gWord, .str a86_.gName]) [], .v (.agg [.bool a87_.gWord, .str a87_.gName]) []] (.v (.bool r) []) [] := by
  refine FnO.of Try.func90 (rfl : Try.f90.body = some _) (Nat.le_of_ble_eq_true (by kernel_rfl)) (Nat.le_of_ble_eq_true (by kernel_rfl)) ?_
  intro w0 X0 Fin pv0 pb
  unfold plaws_eqPart at h
  refine Wc.seq ?_
  refine Wc.region [] [] [2, 3] [2, 3] [] ⟨[(2, (.ptr 2 0, [])), (3, (.ptr 3 0, []))], [(2, .cells [.bool a86_.gWord, .str a86_.gName] []), (3, .cells [.bool a87_.gWord, .str a87_.gName] [])], []⟩ _ (by kernel_rfl) .nil ?_
  refine Wc.seq ?_
  refine Wc.seq ?_
  refine Wc.region [] [] [2, 3, 9] [2, 3] [] ⟨[(2, (.ptr 2 0, [])), (3, (.ptr 3 0, [])), (9, (.v (.bool (!(a86_.gWord == a87_.gWord))), []))], [(2, .cells [.bool a86_.gWord, .str a86_.gName] []), (3, .cells [.bool a87_.gWord, .str a87_.gName] [])], []⟩ _ (by kernel_rfl) .nil ?_
  rcases oif h with ⟨h69, h⟩ | ⟨h69, h⟩
  · refine Wc.condT h69 (by kernel_rfl) ?_
    refine Wc.seq ?_
    refine Wc.region [] [] [4] [] [] ⟨[(4, (.v (.bool false), []))], [], []⟩ _ (by kernel_rfl) .nil ?_
    refine Wc.ret ?_
    obtain rfl := Option.some.inj h
    exact ⟨.inl rfl, by kernel_rfl, by kernel_rfl⟩
  · refine Wc.condF h69 (by kernel_rfl) ?_
    refine Wc.fix (st' := ⟨[(2, (.ptr 2 0, [])), (3, (.ptr 3 0, []))], [(2, .cells [.bool a86_.gWord, .str a86_.gName] []), (3, .cells [.bool a87_.gWord, .str a87_.gName] [])], []⟩) [] [2, 3] [2, 3] [] (by kernel_rfl) ?_
    refine Wc.skip ?_
    refine Wc.seq ?_
    refine Wc.seq ?_
    refine Wc.region [] [] [14] [] [] ⟨[(14, (.v (.bool (!(sEq a86_.gName a87_.gName))), []))], [], []⟩ _ (by kernel_rfl) .nil ?_
    rcases oif h with ⟨h70, h⟩ | ⟨h70, h⟩
    · refine Wc.condT h70 (by kernel_rfl) ?_
      refine Wc.seq ?_
      refine Wc.region [] [] [4] [] [] ⟨[(4, (.v (.bool false), []))], [], []⟩ _ (by kernel_rfl) .nil ?_
      refine Wc.ret ?_
      obtain rfl := Option.some.inj h
      exact ⟨.inl rfl, by kernel_rfl, by kernel_rfl⟩
    · refine Wc.condF h70 (by kernel_rfl) ?_
      refine Wc.fix (st' := ⟨[], [], []⟩) [] [] [] [] (by kernel_rfl) ?_
      refine Wc.skip ?_
      refine Wc.seq ?_
      refine Wc.region [] [] [4] [] [] ⟨[(4, (.v (.bool true), []))], [], []⟩ _ (by kernel_rfl) .nil ?_
      refine Wc.ret ?_
      obtain rfl := Option.some.inj h
      exact ⟨.inl rfl, by kernel_rfl, by kernel_rfl⟩

def plaws_eqPartS_L1 (k : Nat) (c88_ : List GPart) (c89_ : List GPart) : Nat → Int → Option (Out Bool Unit)
  | 0, _ => none
  | m + 1, b90_ =>
    if (decide (b90_ < (c88_.length : Int))) = true then
      (at' c88_ b90_).bind fun a91_ =>
      (at' c89_ b90_).bind fun a92_ =>
      (plaws_eqPart k a91_ a92_).bind fun j93_ =>
      if (!j93_) = true then
        some (.ret false)
      else
        plaws_eqPartS_L1 k c88_ c89_ m (wr.i64 (b90_ + 1))
    else
      some (.done ())
/-- laws.eqPartS -/
def plaws_eqPartS (k : Nat) (c88_ : List GPart) (c89_ : List GPart) : Option Bool :=
  if ((c88_.length : Int) != (c89_.length : Int)) = true then
    some false
  else
    (plaws_eqPartS_L1 k c88_ c89_ k 0).bind fun out1 => match out1 with
    | .ret r => some r
    | .done () =>
      some true
theorem claws_eqPartS {k : Nat} {c88_ : List GPart} {c89_ : List GPart} {r : Bool} (h : plaws_eqPartS k c88_ c89_ = some r) : FnO Try.prog 61 [.v (.sl (List.map GPart.c c88_)) [], .v (.sl (List.map GPart.c c89_)) []] (.v (.bool r) []) [] := by
  refine FnO.of Try.func61 (rfl : Try.f61.body = some _) (Nat.le_of_ble_eq_true (by kernel_rfl)) (Nat.le_of_ble_eq_true (by kernel_rfl)) ?_
  intro w0 X0 Fin pv0 pb
  unfold plaws_eqPartS at h
  refine Wc.seq ?_
  refine Wc.region [] [] [0, 1] [] [] ⟨[(0, (.v (.sl (List.map GPart.c c88_)), [])), (1, (.v (.sl (List.map GPart.c c89_)), []))], [], []⟩ _ (by kernel_rfl) .nil ?_
  refine Wc.seq ?_
  refine Wc.seq ?_
  refine Wc.region [{}, { v := some (.int .i64 (c88_.length : Int)) }, {}, { v := some (.int .i64 (c89_.length : Int)) }] [] [0, 1, 10] [] [] ⟨[(0, (.v (.sl (List.map GPart.c c88_)), [])), (1, (.v (.sl (List.map GPart.c c89_)), [])), (10, (.v (.bool ((c88_.length : Int) != (c89_.length : Int))), []))], [], []⟩ _ (by kernel_rfl) (.cons (len_obl GPart.c c88_) (.cons (len_obl GPart.c c89_) .nil)) ?_
  rcases oif h with ⟨h71, h⟩ | ⟨h71, h⟩
  · refine Wc.condT h71 (by kernel_rfl) ?_
    refine Wc.seq ?_
    refine Wc.region [] [] [4] [] [] ⟨[(4, (.v (.bool false), []))], [], []⟩ _ (by kernel_rfl) .nil ?_
    refine Wc.ret ?_
    obtain rfl := Option.some.inj h
    exact ⟨.inl rfl, by kernel_rfl, by kernel_rfl⟩
  · refine Wc.condF h71 (by kernel_rfl) ?_
    refine Wc.fix (st' := ⟨[(0, (.v (.sl (List.map GPart.c c88_)), [])), (1, (.v (.sl (List.map GPart.c c89_)), []))], [], []⟩) [] [0, 1] [] [] (by kernel_rfl) ?_
    refine Wc.skip ?_
    refine Wc.seq ?_
    refine Wc.seq ?_
    refine Wc.region [] [] [0, 1, 5] [] [] ⟨[(0, (.v (.sl (List.map GPart.c c88_)), [])), (1, (.v (.sl (List.map GPart.c c89_)), [])), (5, (.v (.int .i64 0), []))], [], []⟩ _ (by kernel_rfl) .nil ?_
    obtain ⟨out1, h72, h⟩ := obind h
    refine Wc.lastJ (fun st => out1 = .done () ∧ st = ⟨[], [], []⟩) ?_ ?_
    · refine Wc.block ?_
      refine Wc.loop (fun m st => ∃ (b90_ : Int), st = ⟨[(0, (.v (.sl (List.map GPart.c c88_)), [])), (1, (.v (.sl (List.map GPart.c c89_)), [])), (5, (.v (.int .i64 b90_), []))], [], []⟩ ∧ plaws_eqPartS_L1 k c88_ c89_ m b90_ = some out1) ?_ k ⟨_, rfl, h72⟩
      rintro m st ⟨b90_, rfl, h72⟩
      cases m with
      | zero => exact (onone h72).elim
      | succ m =>
        refine Wc.seq ?_
        refine Wc.seq ?_
        refine Wc.region [{}, {}, { v := some (.int .i64 (c88_.length : Int)) }] [] [0, 1, 5, 14] [] [] ⟨[(0, (.v (.sl (List.map GPart.c c88_)), [])), (1, (.v (.sl (List.map GPart.c c89_)), [])), (5, (.v (.int .i64 b90_), [])), (14, (.v (.bool (decide (b90_ < (c88_.length : Int)))), []))], [], []⟩ _ (by kernel_rfl) (.cons (len_obl GPart.c c88_) .nil) ?_
        rcases oif h72 with ⟨h73, h72⟩ | ⟨h73, h72⟩
        · refine Wc.condT h73 (by kernel_rfl) ?_
          refine Wc.fix (st' := ⟨[(0, (.v (.sl (List.map GPart.c c88_)), [])), (1, (.v (.sl (List.map GPart.c c89_)), [])), (5, (.v (.int .i64 b90_), []))], [], []⟩) [] [0, 1, 5] [] [] (by kernel_rfl) ?_
          refine Wc.skip ?_
          refine Wc.seq ?_
          refine Wc.block ?_
          refine Wc.seq ?_
          obtain ⟨a91_, h74, h72⟩ := obind h72
          obtain ⟨a92_, h75, h72⟩ := obind h72
          obtain ⟨j93_, h76, h72⟩ := obind h72
          refine Wc.draw hmix [{}, {}, { v := some (.vptr [.bool a91_.gWord, .str a91_.gName]) }, {}, {}, {}, { v := some (.vptr [.bool a92_.gWord, .str a92_.gName]) }, {}, { r := some (.v (.bool j93_) []) }] [] [0, 1, 5, 26] [] [] ⟨[(0, (.v (.sl (List.map GPart.c c88_)), [])), (1, (.v (.sl (List.map GPart.c c89_)), [])), (5, (.v (.int .i64 b90_), [])), (26, (.v (.bool (!j93_)), []))], [], []⟩ _ (by kernel_rfl) (fun X => by kernel_rfl) (.cons (at_obl (c := GPart.c) (GPart.c_eq a91_) GPart.c_len h74) (.cons (len_ok 2 [.bool a91_.gWord, .str a91_.gName]) (.cons (at_obl (c := GPart.c) (GPart.c_eq a92_) GPart.c_len h75) (.cons (len_ok 2 [.bool a92_.gWord, .str a92_.gName]) (.cons (claws_eqPart h76) .nil))))) ?_
          rcases oif h72 with ⟨h77, h72⟩ | ⟨h77, h72⟩
          · refine Wc.condT h77 (by kernel_rfl) ?_
            refine Wc.seq ?_
            refine Wc.region [] [] [4] [] [] ⟨[(4, (.v (.bool false), []))], [], []⟩ _ (by kernel_rfl) .nil ?_
            refine Wc.ret ?_
            obtain rfl := Option.some.inj h72
            obtain rfl := Option.some.inj h
            exact ⟨.inl rfl, by kernel_rfl, by kernel_rfl⟩
          · refine Wc.condF h77 (by kernel_rfl) ?_
            refine Wc.fix (st' := ⟨[(0, (.v (.sl (List.map GPart.c c88_)), [])), (1, (.v (.sl (List.map GPart.c c89_)), [])), (5, (.v (.int .i64 b90_), []))], [], []⟩) [] [0, 1, 5] [] [] (by kernel_rfl) ?_
            refine Wc.skip ?_
            refine Wc.region [] [] [0, 1, 5] [] [] ⟨[(0, (.v (.sl (List.map GPart.c c88_)), [])), (1, (.v (.sl (List.map GPart.c c89_)), [])), (5, (.v (.int .i64 (wr.i64 (b90_ + 1))), []))], [], []⟩ _ (by kernel_rfl) .nil ?_
            exact ⟨_, Nat.lt_succ_self _, _, rfl, h72⟩
        · refine Wc.condF h73 (by kernel_rfl) ?_
          refine Wc.fix (st' := ⟨[], [], []⟩) [] [] [] [] (by kernel_rfl) ?_
          refine Wc.exit ?_
          obtain rfl := Option.some.inj h72
          exact ⟨rfl, rfl⟩
    · rintro st ⟨rfl, rfl⟩
      refine Wc.seq ?_
      refine Wc.region [] [] [4] [] [] ⟨[(4, (.v (.bool true), []))], [], []⟩ _ (by kernel_rfl) .nil ?_
      refine Wc.ret ?_
      obtain rfl := Option.some.inj h
      exact ⟨.inl rfl, by kernel_rfl, by kernel_rfl⟩

/-- laws.eqRule -/
def plaws_eqRule (k : Nat) (d94_ : GRule) (d95_ : GRule) : Option Bool :=
  if (!(sEq d94_.gName d95_.gName)) = true then
    some false
  else
    (plaws_eqPartS k d94_.gParts d95_.gParts).bind fun j96_ =>
    if (!j96_) = true then
      some false
    else
      some true
theorem claws_eqRule {k : Nat} {d94_ : GRule} {d95_ : GRule} {r : Bool} (h : plaws_eqRule k d94_ d95_ = some r) : FnO Try.prog 19 [.v (.agg [.str d94_.gName, .sl (List.map GPart.c d94_.gParts)]) [], .v (.agg [.str d95_.gName, .sl (List.map GPart.c d95_.gParts)]) []] (.v (.bool r) []) [] := by
  refine FnO.of Try.func19 (rfl : Try.f19.body = some _) (Nat.le_of_ble_eq_true (by kernel_rfl)) (Nat.le_of_ble_eq_true (by kernel_rfl)) ?_
  intro w0 X0 Fin pv0 pb
  unfold plaws_eqRule at h
  refine Wc.seq ?_
  refine Wc.region [] [] [2, 3] [2, 3] [] ⟨[(2, (.ptr 2 0, [])), (3, (.ptr 3 0, []))], [(2, .cells [.str d94_.gName, .sl (List.map GPart.c d94_.gParts)] []), (3, .cells [.str d95_.gName, .sl (List.map GPart.c d95_.gParts)] [])], []⟩ _ (by kernel_rfl) .nil ?_
  refine Wc.seq ?_
  refine Wc.seq ?_
  refine Wc.region [] [] [2, 3, 9] [2, 3] [] ⟨[(2, (.ptr 2 0, [])), (3, (.ptr 3 0, [])), (9, (.v (.bool (!(sEq d94_.gName d95_.gName))), []))], [(2, .cells [.str d94_.gName, .sl (List.map GPart.c d94_.gParts)] []), (3, .cells [.str d95_.gName, .sl (List.map GPart.c d95_.gParts)] [])], []⟩ _ (by kernel_rfl) .nil ?_
  rcases oif h with ⟨h78, h⟩ | ⟨h78, h⟩
  · refine Wc.condT h78 (by kernel_rfl) ?_
    refine Wc.seq ?_
    refine Wc.region [] [] [4] [] [] ⟨[(4, (.v (.bool false), []))], [], []⟩ _ (by kernel_rfl) .nil ?_
    refine Wc.ret ?_
    obtain rfl := Option.some.inj h
    exact ⟨.inl rfl, by kernel_rfl, by kernel_rfl⟩
  · refine Wc.condF h78 (by kernel_rfl) ?_
    refine Wc.fix (st' := ⟨[(2, (.ptr 2 0, [])), (3, (.ptr 3 0, []))], [(2, .cells [.str d94_.gName, .sl (List.map GPart.c d94_.gParts)] []), (3, .cells [.str d95_.gName, .sl (List.map GPart.c d95_.gParts)] [])], []⟩) [] [2, 3] [2, 3] [] (by kernel_rfl) ?_
    refine Wc.skip ?_
    refine Wc.seq ?_
    refine Wc.seq ?_
    obtain ⟨j96_, h79, h⟩ := obind h
    refine Wc.region [{}, {}, {}, {}, { r := some (.v (.bool j96_) []) }] [] [15] [] [] ⟨[(15, (.v (.bool (!j96_)), []))], [], []⟩ _ (by kernel_rfl) (.cons (claws_eqPartS h79) .nil) ?_
    rcases oif h with ⟨h80, h⟩ | ⟨h80, h⟩
    · refine Wc.condT h80 (by kernel_rfl) ?_
      refine Wc.seq ?_
      refine Wc.region [] [] [4] [] [] ⟨[(4, (.v (.bool false), []))], [], []⟩ _ (by kernel_rfl) .nil ?_
      refine Wc.ret ?_
      obtain rfl := Option.some.inj h
      exact ⟨.inl rfl, by kernel_rfl, by kernel_rfl⟩
    · refine Wc.condF h80 (by kernel_rfl) ?_
      refine Wc.fix (st' := ⟨[], [], []⟩) [] [] [] [] (by kernel_rfl) ?_
      refine Wc.skip ?_
      refine Wc.seq ?_
      refine Wc.region [] [] [4] [] [] ⟨[(4, (.v (.bool true), []))], [], []⟩ _ (by kernel_rfl) .nil ?_
      refine Wc.ret ?_
      obtain rfl := Option.some.inj h
      exact ⟨.inl rfl, by kernel_rfl, by kernel_rfl⟩

def plaws_markText_L1 (k : Nat) : Nat → Int → ByteArray → Option (Out ByteArray ByteArray)
  | 0, _, _ => none
  | m + 1, b98_, e99_ =>
    if (decide (b98_ > 0)) = true then
      if (10 : Int) ≠ 0 then
        if sumOk (strOfNums [wr.u8 (wr.i64 (48 + (Int.tmod b98_ 10)))]) e99_ then
          if (10 : Int) ≠ 0 then
            plaws_markText_L1 k m (wr.i64 (Int.tdiv b98_ 10)) ((strOfNums [wr.u8 (wr.i64 (48 + (Int.tmod b98_ 10)))]) ++ e99_)
          else none
        else none
      else none
    else
      some (.done e99_)
/-- laws.markText -/
def plaws_markText (k : Nat) (b97_ : Int) : Option ByteArray :=
  if (decide (b97_ ≤ 0)) = true then
    some (bs [109, 48])
  else
    (plaws_markText_L1 k k b97_ (bs [])).bind fun out1 => match out1 with
    | .ret r => some r
    | .done e100_ =>
      if sumOk (bs [109]) e100_ then
        some ((bs [109]) ++ e100_)
      else none
theorem claws_markText {k : Nat} {b97_ : Int} {r : ByteArray} (h : plaws_markText k b97_ = some r) : FnO Try.prog 80 [.v (.int .i64 b97_) []] (.v (.str r) []) [] := by
  refine FnO.of Try.func80 (rfl : Try.f80.body = some _) (Nat.le_of_ble_eq_true (by kernel_rfl)) (Nat.le_of_ble_eq_true (by kernel_rfl)) ?_
  intro w0 X0 Fin pv0 pb
  unfold plaws_markText at h
  refine Wc.seq ?_
  refine Wc.region [] [] [0] [] [] ⟨[(0, (.v (.int .i64 b97_), []))], [], []⟩ _ (by kernel_rfl) .nil ?_
  refine Wc.seq ?_
  refine Wc.seq ?_
  refine Wc.region [] [] [0, 5] [] [] ⟨[(0, (.v (.int .i64 b97_), [])), (5, (.v (.bool (decide (b97_ ≤ 0))), []))], [], []⟩ _ (by kernel_rfl) .nil ?_
  rcases oif h with ⟨h81, h⟩ | ⟨h81, h⟩
  · refine Wc.condT h81 (by kernel_rfl) ?_
    refine Wc.seq ?_
    refine Wc.region [] [] [2] [] [] ⟨[(2, (.v (.str (bs [109, 48])), []))], [], []⟩ _ (by kernel_rfl) .nil ?_
    refine Wc.ret ?_
    obtain rfl := Option.some.inj h
    exact ⟨.inl rfl, by kernel_rfl, by kernel_rfl⟩
  · refine Wc.condF h81 (by kernel_rfl) ?_
    refine Wc.fix (st' := ⟨[(0, (.v (.int .i64 b97_), []))], [], []⟩) [] [0] [] [] (by kernel_rfl) ?_
    refine Wc.skip ?_
    refine Wc.seq ?_
    refine Wc.region [] [] [0, 3] [] [] ⟨[(0, (.v (.int .i64 b97_), [])), (3, (.v (.str (bs [])), []))], [], []⟩ _ (by kernel_rfl) .nil ?_
    obtain ⟨out1, h82, h⟩ := obind h
    refine Wc.seqJ (fun st => ∃ (e100_ : ByteArray), out1 = .done e100_ ∧ st = ⟨[(3, (.v (.str e100_), []))], [], []⟩) ?_ ?_
    · refine Wc.block ?_
      refine Wc.loop (fun m st => ∃ (b98_ : Int) (e99_ : ByteArray), st = ⟨[(0, (.v (.int .i64 b98_), [])), (3, (.v (.str e99_), []))], [], []⟩ ∧ plaws_markText_L1 k m b98_ e99_ = some out1) ?_ k ⟨_, _, rfl, h82⟩
      rintro m st ⟨b98_, e99_, rfl, h82⟩
      cases m with
      | zero => exact (onone h82).elim
      | succ m =>
        refine Wc.seq ?_
        refine Wc.seq ?_
        refine Wc.region [] [] [0, 3, 7] [] [] ⟨[(0, (.v (.int .i64 b98_), [])), (3, (.v (.str e99_), [])), (7, (.v (.bool (decide (b98_ > 0))), []))], [], []⟩ _ (by kernel_rfl) .nil ?_
        rcases oif h82 with ⟨h83, h82⟩ | ⟨h83, h82⟩
        · refine Wc.condT h83 (by kernel_rfl) ?_
          refine Wc.fix (st' := ⟨[(0, (.v (.int .i64 b98_), [])), (3, (.v (.str e99_), []))], [], []⟩) [] [0, 3] [] [] (by kernel_rfl) ?_
          refine Wc.skip ?_
          refine Wc.block ?_
          refine Wc.seq ?_
          obtain ⟨h84, h82⟩ := oguard h82
          obtain ⟨h85, h82⟩ := oguard h82
          refine Wc.region [{}, {}, {}, {}, { c := some (List.map cI.u8 [wr.u8 (wr.i64 (48 + (Int.tmod b98_ 10)))]) }, { v := some (.str (strOfNums [wr.u8 (wr.i64 (48 + (Int.tmod b98_ 10)))])) }] [] [0, 3] [] [] ⟨[(0, (.v (.int .i64 b98_), [])), (3, (.v (.str ((strOfNums [wr.u8 (wr.i64 (48 + (Int.tmod b98_ 10)))]) ++ e99_)), []))], [], []⟩ _ (by kernel_rfl) (.cons h84 (.cons (cl_cons (c := cI.u8) (x := wr.u8 (wr.i64 (48 + (Int.tmod b98_ 10)))) rfl (cl_nil cI.u8)) (.cons (bytes_obl [wr.u8 (wr.i64 (48 + (Int.tmod b98_ 10)))]) (.cons h85 .nil)))) ?_
          obtain ⟨h86, h82⟩ := oguard h82
          refine Wc.region [] [] [0, 3] [] [] ⟨[(0, (.v (.int .i64 (wr.i64 (Int.tdiv b98_ 10))), [])), (3, (.v (.str ((strOfNums [wr.u8 (wr.i64 (48 + (Int.tmod b98_ 10)))]) ++ e99_)), []))], [], []⟩ _ (by kernel_rfl) (.cons h86 .nil) ?_
          exact ⟨_, Nat.lt_succ_self _, _, _, rfl, h82⟩
        · refine Wc.condF h83 (by kernel_rfl) ?_
          refine Wc.fix (st' := ⟨[(3, (.v (.str e99_), []))], [], []⟩) [] [3] [] [] (by kernel_rfl) ?_
          refine Wc.exit ?_
          obtain rfl := Option.some.inj h82
          exact ⟨_, rfl, rfl⟩
    · rintro st ⟨e100_, rfl, rfl⟩
      refine Wc.seq ?_
      obtain ⟨h87, h⟩ := oguard h
      refine Wc.region [] [] [2] [] [] ⟨[(2, (.v (.str ((bs [109]) ++ e100_)), []))], [], []⟩ _ (by kernel_rfl) (.cons h87 .nil) ?_
      refine Wc.ret ?_
      obtain rfl := Option.some.inj h
      exact ⟨.inl rfl, by kernel_rfl, by kernel_rfl⟩

def plaws_markPartS_L1 (k : Nat) : Nat → Int → Int → (List GPart) → Option (Out ((List GPart) × Int) (Int × (List GPart)))
  | 0, _, _, _ => none
  | m + 1, b103_, b104_, c105_ =>
    if (decide (b104_ < (c105_.length : Int))) = true then
      if (3 : Int) ≠ 0 then
        (at' c105_ b104_).bind fun a108_ =>
        (plaws_markText k (wr.i64 (b103_ + 1))).bind fun e109_ =>
        (at' (c105_.set ((b104_).toNat) (GPart.mk ((Int.tmod b103_ 3) == 0) a108_.gName)) b104_).bind fun a110_ =>
        plaws_markPartS_L1 k m (wr.i64 ((wr.i64 (b103_ + 1)) + 1)) (wr.i64 (b104_ + 1)) ((c105_.set ((b104_).toNat) (GPart.mk ((Int.tmod b103_ 3) == 0) a108_.gName)).set ((b104_).toNat) (GPart.mk a110_.gWord e109_))
      else none
    else
      some (.done (b103_, c105_))
/-- laws.markPartS -/
def plaws_markPartS (k : Nat) (c101_ : List GPart) (b102_ : Int) : Option ((List GPart) × Int) :=
  (plaws_markPartS_L1 k k b102_ 0 c101_).bind fun out1 => match out1 with
  | .ret r => some r
  | .done (b106_, c107_) =>
    some (c107_, b106_)
theorem claws_markPartS {k : Nat} {c101_ : List GPart} {b102_ : Int} {r : (List GPart) × Int} (h : plaws_markPartS k c101_ b102_ = some r) : FnO Try.prog 62 [.io (.slx) [(0, .ex 1000000007 true (List.map GPart.c c101_))], .v (.int .i64 b102_) []] (.v (.int .i64 r.2) []) [(0, .v .undef [(0, .ex 1000000007 true (List.map GPart.c r.1))])] := by
  refine FnO.of Try.func62 (rfl : Try.f62.body = some _) (Nat.le_of_ble_eq_true (by kernel_rfl)) (Nat.le_of_ble_eq_true (by kernel_rfl)) ?_
  intro w0 X0 Fin pv0 pb
  unfold plaws_markPartS at h
  refine Wc.seq ?_
  refine Wc.region [] [] [0, 1] [] [0] ⟨[(0, (.v (.slx), [(0, .al (.a 0 0) [])])), (1, (.v (.int .i64 b102_), []))], [], [(0, [(0, .ex 1000000007 true (List.map GPart.c c101_))])]⟩ _ (by kernel_rfl) .nil ?_
  refine Wc.seq ?_
  refine Wc.seq ?_
  refine Wc.region [] [] [0, 1, 5] [] [0] ⟨[(0, (.v (.slx), [(0, .al (.a 0 0) [])])), (1, (.v (.int .i64 b102_), [])), (5, (.v (.int .i64 0), []))], [], [(0, [(0, .ex 1000000007 true (List.map GPart.c c101_))])]⟩ _ (by kernel_rfl) .nil ?_
  obtain ⟨out1, h88, h⟩ := obind h
  refine Wc.lastJ (fun st => ∃ (b106_ : Int) (c107_ : List GPart), out1 = .done (b106_, c107_) ∧ st = ⟨[(1, (.v (.int .i64 b106_), []))], [], [(0, [(0, .ex 1000000007 true (List.map GPart.c c107_))])]⟩) ?_ ?_
  · refine Wc.block ?_
    refine Wc.loop (fun m st => ∃ (b103_ : Int) (b104_ : Int) (c105_ : List GPart), st = ⟨[(0, (.v (.slx), [(0, .al (.a 0 0) [])])), (1, (.v (.int .i64 b103_), [])), (5, (.v (.int .i64 b104_), []))], [], [(0, [(0, .ex 1000000007 true (List.map GPart.c c105_))])]⟩ ∧ plaws_markPartS_L1 k m b103_ b104_ c105_ = some out1) ?_ k ⟨_, _, _, rfl, h88⟩
    rintro m st ⟨b103_, b104_, c105_, rfl, h88⟩
    cases m with
    | zero => exact (onone h88).elim
    | succ m =>
      refine Wc.seq ?_
      refine Wc.seq ?_
      refine Wc.region [{}, {}, { v := some (.int .i64 (c105_.length : Int)) }] [] [0, 1, 5, 9] [] [0] ⟨[(0, (.v (.slx), [(0, .al (.a 0 0) [])])), (1, (.v (.int .i64 b103_), [])), (5, (.v (.int .i64 b104_), [])), (9, (.v (.bool (decide (b104_ < (c105_.length : Int)))), []))], [], [(0, [(0, .ex 1000000007 true (List.map GPart.c c105_))])]⟩ _ (by kernel_rfl) (.cons (len_obl GPart.c c105_) .nil) ?_
      rcases oif h88 with ⟨h89, h88⟩ | ⟨h89, h88⟩
      · refine Wc.condT h89 (by kernel_rfl) ?_
        refine Wc.fix (st' := ⟨[(0, (.v (.slx), [(0, .al (.a 0 0) [])])), (1, (.v (.int .i64 b103_), [])), (5, (.v (.int .i64 b104_), []))], [], [(0, [(0, .ex 1000000007 true (List.map GPart.c c105_))])]⟩) [] [0, 1, 5] [] [0] (by kernel_rfl) ?_
        refine Wc.skip ?_
        refine Wc.seq ?_
        refine Wc.block ?_
        refine Wc.seq ?_
        obtain ⟨h90, h88⟩ := oguard h88
        obtain ⟨a108_, h91, h88⟩ := obind h88
        refine Wc.region [{}, {}, {}, {}, {}, {}, {}, { c := some (List.map GPart.c (c105_.set ((b104_).toNat) (GPart.mk ((Int.tmod b103_ 3) == 0) a108_.gName))) }] [] [0, 1, 5] [] [0] ⟨[(0, (.v (.slx), [(0, .al (.a 0 0) [])])), (1, (.v (.int .i64 b103_), [])), (5, (.v (.int .i64 b104_), []))], [], [(0, [(0, .ex 1000000007 true (List.map GPart.c (c105_.set ((b104_).toNat) (GPart.mk ((Int.tmod b103_ 3) == 0) a108_.gName))))])]⟩ _ (by kernel_rfl) (.cons h90 (.cons (ix_obl (c := GPart.c) GPart.c_len h91) (.cons (mod_obl (off := 0) (new := [.bool ((Int.tmod b103_ 3) == 0)]) (c := GPart.c) (GPart.c_eq a108_) (GPart.c_eq (GPart.mk ((Int.tmod b103_ 3) == 0) a108_.gName)) (at'_spec h91).2 rfl) (.cons (st_obl (sz := 2) (off := 0) (s := 1) (c := GPart.c) (GPart.c_eq a108_) (at'_spec h91).2 rfl (Nat.le_of_ble_eq_true rfl)) .nil)))) ?_
        refine Wc.seq ?_
        refine Wc.region [] [] [0, 1, 5] [] [0] ⟨[(0, (.v (.slx), [(0, .al (.a 0 0) [])])), (1, (.v (.int .i64 (wr.i64 (b103_ + 1))), [])), (5, (.v (.int .i64 b104_), []))], [], [(0, [(0, .ex 1000000007 true (List.map GPart.c (c105_.set ((b104_).toNat) (GPart.mk ((Int.tmod b103_ 3) == 0) a108_.gName))))])]⟩ _ (by kernel_rfl) .nil ?_
        refine Wc.seq ?_
        obtain ⟨e109_, h92, h88⟩ := obind h88
        obtain ⟨a110_, h93, h88⟩ := obind h88
        refine Wc.region [{}, {}, {}, { r := some (.v (.str e109_) []) }, {}, {}, { c := some (List.map GPart.c ((c105_.set ((b104_).toNat) (GPart.mk ((Int.tmod b103_ 3) == 0) a108_.gName)).set ((b104_).toNat) (GPart.mk a110_.gWord e109_))) }] [] [0, 1, 5] [] [0] ⟨[(0, (.v (.slx), [(0, .al (.a 0 0) [])])), (1, (.v (.int .i64 (wr.i64 (b103_ + 1))), [])), (5, (.v (.int .i64 b104_), []))], [], [(0, [(0, .ex 1000000007 true (List.map GPart.c ((c105_.set ((b104_).toNat) (GPart.mk ((Int.tmod b103_ 3) == 0) a108_.gName)).set ((b104_).toNat) (GPart.mk a110_.gWord e109_))))])]⟩ _ (by kernel_rfl) (.cons (claws_markText h92) (.cons (ix_obl (c := GPart.c) GPart.c_len h93) (.cons (mod_obl (off := 1) (new := [.str e109_]) (c := GPart.c) (GPart.c_eq a110_) (GPart.c_eq (GPart.mk a110_.gWord e109_)) (at'_spec h93).2 rfl) (.cons (st_obl (sz := 2) (off := 1) (s := 1) (c := GPart.c) (GPart.c_eq a110_) (at'_spec h93).2 rfl (Nat.le_of_ble_eq_true rfl)) .nil)))) ?_
        refine Wc.region [] [] [0, 1, 5] [] [0] ⟨[(0, (.v (.slx), [(0, .al (.a 0 0) [])])), (1, (.v (.int .i64 (wr.i64 ((wr.i64 (b103_ + 1)) + 1))), [])), (5, (.v (.int .i64 b104_), []))], [], [(0, [(0, .ex 1000000007 true (List.map GPart.c ((c105_.set ((b104_).toNat) (GPart.mk ((Int.tmod b103_ 3) == 0) a108_.gName)).set ((b104_).toNat) (GPart.mk a110_.gWord e109_))))])]⟩ _ (by kernel_rfl) .nil ?_
        refine Wc.region [] [] [0, 1, 5] [] [0] ⟨[(0, (.v (.slx), [(0, .al (.a 0 0) [])])), (1, (.v (.int .i64 (wr.i64 ((wr.i64 (b103_ + 1)) + 1))), [])), (5, (.v (.int .i64 (wr.i64 (b104_ + 1))), []))], [], [(0, [(0, .ex 1000000007 true (List.map GPart.c ((c105_.set ((b104_).toNat) (GPart.mk ((Int.tmod b103_ 3) == 0) a108_.gName)).set ((b104_).toNat) (GPart.mk a110_.gWord e109_))))])]⟩ _ (by kernel_rfl) .nil ?_
        exact ⟨_, Nat.lt_succ_self _, _, _, _, rfl, h88⟩
      · refine Wc.condF h89 (by kernel_rfl) ?_
        refine Wc.fix (st' := ⟨[(1, (.v (.int .i64 b103_), []))], [], [(0, [(0, .ex 1000000007 true (List.map GPart.c c105_))])]⟩) [] [1] [] [0] (by kernel_rfl) ?_
        refine Wc.exit ?_
        obtain rfl := Option.some.inj h88
        exact ⟨_, _, rfl, rfl⟩
  · rintro st ⟨b106_, c107_, rfl, rfl⟩
    refine Wc.seq ?_
    refine Wc.region [] [] [4] [] [0] ⟨[(4, (.v (.int .i64 b106_), []))], [], [(0, [(0, .ex 1000000007 true (List.map GPart.c c107_))])]⟩ _ (by kernel_rfl) .nil ?_
    refine Wc.ret ?_
    obtain rfl := Option.some.inj h
    exact ⟨.inl rfl, by kernel_rfl, by kernel_rfl⟩

/-- laws.markRule -/
def plaws_markRule (k : Nat) (d111_ : GRule) (b112_ : Int) : Option (GRule × Int) :=
  (plaws_markPartS k d111_.gParts b112_).bind fun l113_ =>
  some (GRule.mk d111_.gName l113_.1, l113_.2)
theorem claws_markRule {k : Nat} {d111_ : GRule} {b112_ : Int} {r : GRule × Int} (h : plaws_markRule k d111_ b112_ = some r) : FnO Try.prog 20 [.io (.agg [.str d111_.gName, .slx]) [(1, .ex 1000000007 true (List.map GPart.c d111_.gParts))], .v (.int .i64 b112_) []] (.v (.int .i64 r.2) []) [(0, .v .undef [(1, .ex 1000000007 true (List.map GPart.c r.1.gParts))])] := by
  refine FnO.of Try.func20 (rfl : Try.f20.body = some _) (Nat.le_of_ble_eq_true (by kernel_rfl)) (Nat.le_of_ble_eq_true (by kernel_rfl)) ?_
  intro w0 X0 Fin pv0 pb
  unfold plaws_markRule at h
  refine Wc.seq ?_
  refine Wc.region [] [] [1, 2] [2] [0] ⟨[(1, (.v (.int .i64 b112_), [])), (2, (.ptr 2 0, []))], [(2, .cells [.str d111_.gName, .slx] [(1, .al (.a 0 1) [])])], [(0, [(1, .ex 1000000007 true (List.map GPart.c d111_.gParts))])]⟩ _ (by kernel_rfl) .nil ?_
  refine Wc.seq ?_
  obtain ⟨l113_, h94, h⟩ := obind h
  refine Wc.region [{}, {}, {}, { io := [0], r := some (.v (.int .i64 l113_.2) []), outs := [(0, .v .undef [(0, .ex 1000000007 true (List.map GPart.c l113_.1))])] }] [] [1] [] [0] ⟨[(1, (.v (.int .i64 l113_.2), []))], [], [(0, [(1, .ex 1000000007 true (List.map GPart.c l113_.1))])]⟩ _ (by kernel_rfl) (.cons (FnO.any (args := [.io (.slx) [(0, .ex 1000000007 true (List.map GPart.c d111_.gParts))], .v (.int .i64 b112_) []]) (claws_markPartS h94)) .nil) ?_
  refine Wc.seq ?_
  refine Wc.region [] [] [4] [] [0] ⟨[(4, (.v (.int .i64 l113_.2), []))], [], [(0, [(1, .ex 1000000007 true (List.map GPart.c l113_.1))])]⟩ _ (by kernel_rfl) .nil ?_
  refine Wc.ret ?_
  obtain rfl := Option.some.inj h
  exact ⟨.inl rfl, by kernel_rfl, by kernel_rfl⟩

def plaws_markTermS_L1 (k : Nat) (rlaws_markTermS : (List GTerm) → Int → Option ((List GTerm) × Int)) : Nat → Int → Int → (List GTerm) → Option (Out ((List GTerm) × Int) (Int × (List GTerm)))
  | 0, _, _, _ => none
  | m + 1, b116_, b117_, i118_ =>
    if (decide (b117_ < (i118_.length : Int))) = true then
      (at' i118_ b117_).bind fun f121_ =>
      (plaws_markText k (wr.i64 (b116_ + 1))).bind fun e122_ =>
      (at' (i118_.set ((b117_).toNat) (GTerm.mk b116_ f121_.gName f121_.gNum f121_.gKids)) b117_).bind fun f123_ =>
      (at' ((i118_.set ((b117_).toNat) (GTerm.mk b116_ f121_.gName f121_.gNum f121_.gKids)).set ((b117_).toNat) (GTerm.mk f123_.gKind e122_ f123_.gNum f123_.gKids)) b117_).bind fun f124_ =>
      (at' (((i118_.set ((b117_).toNat) (GTerm.mk b116_ f121_.gName f121_.gNum f121_.gKids)).set ((b117_).toNat) (GTerm.mk f123_.gKind e122_ f123_.gNum f123_.gKids)).set ((b117_).toNat) (GTerm.mk f124_.gKind f124_.gName (wr.i64 ((wr.i64 (b116_ + 1)) + 1)) f124_.gKids)) b117_).bind fun f125_ =>
      (rlaws_markTermS f125_.gKids (wr.i64 ((wr.i64 ((wr.i64 (b116_ + 1)) + 1)) + 1))).bind fun m126_ =>
      plaws_markTermS_L1 k rlaws_markTermS m m126_.2 (wr.i64 (b117_ + 1)) ((((i118_.set ((b117_).toNat) (GTerm.mk b116_ f121_.gName f121_.gNum f121_.gKids)).set ((b117_).toNat) (GTerm.mk f123_.gKind e122_ f123_.gNum f123_.gKids)).set ((b117_).toNat) (GTerm.mk f124_.gKind f124_.gName (wr.i64 ((wr.i64 (b116_ + 1)) + 1)) f124_.gKids)).set ((b117_).toNat) (GTerm.mk f125_.gKind f125_.gName f125_.gNum m126_.1))
    else
      some (.done (b116_, i118_))
mutual
/-- laws.markTermS -/
def plaws_markTermS : Nat → (List GTerm) → Int → Option ((List GTerm) × Int)
  | 0, _, _ => none
  | k + 1, i114_, b115_ =>
    (plaws_markTermS_L1 k (plaws_markTermS k) k b115_ 0 i114_).bind fun out1 => match out1 with
    | .ret r => some r
    | .done (b119_, i120_) =>
      some (i120_, b119_)
end
theorem all_plaws_markTermS : ∀ k : Nat, (∀ {i114_ : List GTerm} {b115_ : Int} {r : (List GTerm) × Int}, plaws_markTermS k i114_ b115_ = some r → FnO Try.prog 38 [.io (.slx) [(0, .ex 1000000007 true (List.map GTerm.c i114_))], .v (.int .i64 b115_) []] (.v (.int .i64 r.2) []) [(0, .v .undef [(0, .ex 1000000007 true (List.map GTerm.c r.1))])]) := by
  intro k
  induction k with
  | zero =>
    · intro i114_ b115_ r h
      exact (onone (by rw [plaws_markTermS] at h; exact h)).elim
  | succ k ih =>
    have ih_plaws_markTermS := @ih
    · intro i114_ b115_ r h
      rw [plaws_markTermS] at h
      refine FnO.of Try.func38 (rfl : Try.f38.body = some _) (Nat.le_of_ble_eq_true (by kernel_rfl)) (Nat.le_of_ble_eq_true (by kernel_rfl)) ?_
      intro w0 X0 Fin pv0 pb
      refine Wc.seq ?_
      refine Wc.region [] [] [0, 1] [] [0] ⟨[(0, (.v (.slx), [(0, .al (.a 0 0) [])])), (1, (.v (.int .i64 b115_), []))], [], [(0, [(0, .ex 1000000007 true (List.map GTerm.c i114_))])]⟩ _ (by kernel_rfl) .nil ?_
      refine Wc.seq ?_
      refine Wc.seq ?_
      refine Wc.region [] [] [0, 1, 5] [] [0] ⟨[(0, (.v (.slx), [(0, .al (.a 0 0) [])])), (1, (.v (.int .i64 b115_), [])), (5, (.v (.int .i64 0), []))], [], [(0, [(0, .ex 1000000007 true (List.map GTerm.c i114_))])]⟩ _ (by kernel_rfl) .nil ?_
      obtain ⟨out1, h95, h⟩ := obind h
      refine Wc.lastJ (fun st => ∃ (b119_ : Int) (i120_ : List GTerm), out1 = .done (b119_, i120_) ∧ st = ⟨[(1, (.v (.int .i64 b119_), []))], [], [(0, [(0, .ex 1000000007 true (List.map GTerm.c i120_))])]⟩) ?_ ?_
      · refine Wc.block ?_
        refine Wc.loop (fun m st => ∃ (b116_ : Int) (b117_ : Int) (i118_ : List GTerm), st = ⟨[(0, (.v (.slx), [(0, .al (.a 0 0) [])])), (1, (.v (.int .i64 b116_), [])), (5, (.v (.int .i64 b117_), []))], [], [(0, [(0, .ex 1000000007 true (List.map GTerm.c i118_))])]⟩ ∧ plaws_markTermS_L1 k (plaws_markTermS k) m b116_ b117_ i118_ = some out1) ?_ k ⟨_, _, _, rfl, h95⟩
        rintro m st ⟨b116_, b117_, i118_, rfl, h95⟩
        cases m with
        | zero => exact (onone h95).elim
        | succ m =>
          refine Wc.seq ?_
          refine Wc.seq ?_
          refine Wc.region [{}, {}, { v := some (.int .i64 (i118_.length : Int)) }] [] [0, 1, 5, 9] [] [0] ⟨[(0, (.v (.slx), [(0, .al (.a 0 0) [])])), (1, (.v (.int .i64 b116_), [])), (5, (.v (.int .i64 b117_), [])), (9, (.v (.bool (decide (b117_ < (i118_.length : Int)))), []))], [], [(0, [(0, .ex 1000000007 true (List.map GTerm.c i118_))])]⟩ _ (by kernel_rfl) (.cons (len_obl GTerm.c i118_) .nil) ?_
          rcases oif h95 with ⟨h96, h95⟩ | ⟨h96, h95⟩
          · refine Wc.condT h96 (by kernel_rfl) ?_
            refine Wc.fix (st' := ⟨[(0, (.v (.slx), [(0, .al (.a 0 0) [])])), (1, (.v (.int .i64 b116_), [])), (5, (.v (.int .i64 b117_), []))], [], [(0, [(0, .ex 1000000007 true (List.map GTerm.c i118_))])]⟩) [] [0, 1, 5] [] [0] (by kernel_rfl) ?_
            refine Wc.skip ?_
            refine Wc.seq ?_
            refine Wc.block ?_
            refine Wc.seq ?_
            obtain ⟨f121_, h97, h95⟩ := obind h95
            refine Wc.region [{}, {}, {}, {}, {}, { c := some (List.map GTerm.c (i118_.set ((b117_).toNat) (GTerm.mk b116_ f121_.gName f121_.gNum f121_.gKids))) }] [] [0, 1, 5] [] [0] ⟨[(0, (.v (.slx), [(0, .al (.a 0 0) [])])), (1, (.v (.int .i64 b116_), [])), (5, (.v (.int .i64 b117_), []))], [], [(0, [(0, .ex 1000000007 true (List.map GTerm.c (i118_.set ((b117_).toNat) (GTerm.mk b116_ f121_.gName f121_.gNum f121_.gKids))))])]⟩ _ (by kernel_rfl) (.cons (ix_obl (c := GTerm.c) GTerm.c_len h97) (.cons (mod_obl (off := 0) (new := [.int .i64 b116_]) (c := GTerm.c) (GTerm.c_eq f121_) (GTerm.c_eq (GTerm.mk b116_ f121_.gName f121_.gNum f121_.gKids)) (at'_spec h97).2 rfl) (.cons (st_obl (sz := 4) (off := 0) (s := 1) (c := GTerm.c) (GTerm.c_eq f121_) (at'_spec h97).2 rfl (Nat.le_of_ble_eq_true rfl)) .nil))) ?_
            refine Wc.seq ?_
            refine Wc.region [] [] [0, 1, 5] [] [0] ⟨[(0, (.v (.slx), [(0, .al (.a 0 0) [])])), (1, (.v (.int .i64 (wr.i64 (b116_ + 1))), [])), (5, (.v (.int .i64 b117_), []))], [], [(0, [(0, .ex 1000000007 true (List.map GTerm.c (i118_.set ((b117_).toNat) (GTerm.mk b116_ f121_.gName f121_.gNum f121_.gKids))))])]⟩ _ (by kernel_rfl) .nil ?_
            refine Wc.seq ?_
            obtain ⟨e122_, h98, h95⟩ := obind h95
            obtain ⟨f123_, h99, h95⟩ := obind h95
            refine Wc.region [{}, {}, {}, { r := some (.v (.str e122_) []) }, {}, {}, { c := some (List.map GTerm.c ((i118_.set ((b117_).toNat) (GTerm.mk b116_ f121_.gName f121_.gNum f121_.gKids)).set ((b117_).toNat) (GTerm.mk f123_.gKind e122_ f123_.gNum f123_.gKids))) }] [] [0, 1, 5] [] [0] ⟨[(0, (.v (.slx), [(0, .al (.a 0 0) [])])), (1, (.v (.int .i64 (wr.i64 (b116_ + 1))), [])), (5, (.v (.int .i64 b117_), []))], [], [(0, [(0, .ex 1000000007 true (List.map GTerm.c ((i118_.set ((b117_).toNat) (GTerm.mk b116_ f121_.gName f121_.gNum f121_.gKids)).set ((b117_).toNat) (GTerm.mk f123_.gKind e122_ f123_.gNum f123_.gKids))))])]⟩ _ (by kernel_rfl) (.cons (claws_markText h98) (.cons (ix_obl (c := GTerm.c) GTerm.c_len h99) (.cons (mod_obl (off := 1) (new := [.str e122_]) (c := GTerm.c) (GTerm.c_eq f123_) (GTerm.c_eq (GTerm.mk f123_.gKind e122_ f123_.gNum f123_.gKids)) (at'_spec h99).2 rfl) (.cons (st_obl (sz := 4) (off := 1) (s := 1) (c := GTerm.c) (GTerm.c_eq f123_) (at'_spec h99).2 rfl (Nat.le_of_ble_eq_true rfl)) .nil)))) ?_
            refine Wc.seq ?_
            refine Wc.region [] [] [0, 1, 5] [] [0] ⟨[(0, (.v (.slx), [(0, .al (.a 0 0) [])])), (1, (.v (.int .i64 (wr.i64 ((wr.i64 (b116_ + 1)) + 1))), [])), (5, (.v (.int .i64 b117_), []))], [], [(0, [(0, .ex 1000000007 true (List.map GTerm.c ((i118_.set ((b117_).toNat) (GTerm.mk b116_ f121_.gName f121_.gNum f121_.gKids)).set ((b117_).toNat) (GTerm.mk f123_.gKind e122_ f123_.gNum f123_.gKids))))])]⟩ _ (by kernel_rfl) .nil ?_
            refine Wc.seq ?_
            obtain ⟨f124_, h100, h95⟩ := obind h95
            refine Wc.region [{}, {}, {}, {}, {}, { c := some (List.map GTerm.c (((i118_.set ((b117_).toNat) (GTerm.mk b116_ f121_.gName f121_.gNum f121_.gKids)).set ((b117_).toNat) (GTerm.mk f123_.gKind e122_ f123_.gNum f123_.gKids)).set ((b117_).toNat) (GTerm.mk f124_.gKind f124_.gName (wr.i64 ((wr.i64 (b116_ + 1)) + 1)) f124_.gKids))) }] [] [0, 1, 5] [] [0] ⟨[(0, (.v (.slx), [(0, .al (.a 0 0) [])])), (1, (.v (.int .i64 (wr.i64 ((wr.i64 (b116_ + 1)) + 1))), [])), (5, (.v (.int .i64 b117_), []))], [], [(0, [(0, .ex 1000000007 true (List.map GTerm.c (((i118_.set ((b117_).toNat) (GTerm.mk b116_ f121_.gName f121_.gNum f121_.gKids)).set ((b117_).toNat) (GTerm.mk f123_.gKind e122_ f123_.gNum f123_.gKids)).set ((b117_).toNat) (GTerm.mk f124_.gKind f124_.gName (wr.i64 ((wr.i64 (b116_ + 1)) + 1)) f124_.gKids))))])]⟩ _ (by kernel_rfl) (.cons (ix_obl (c := GTerm.c) GTerm.c_len h100) (.cons (mod_obl (off := 2) (new := [.int .i64 (wr.i64 ((wr.i64 (b116_ + 1)) + 1))]) (c := GTerm.c) (GTerm.c_eq f124_) (GTerm.c_eq (GTerm.mk f124_.gKind f124_.gName (wr.i64 ((wr.i64 (b116_ + 1)) + 1)) f124_.gKids)) (at'_spec h100).2 rfl) (.cons (st_obl (sz := 4) (off := 2) (s := 1) (c := GTerm.c) (GTerm.c_eq f124_) (at'_spec h100).2 rfl (Nat.le_of_ble_eq_true rfl)) .nil))) ?_
            refine Wc.seq ?_
            refine Wc.region [] [] [0, 1, 5] [] [0] ⟨[(0, (.v (.slx), [(0, .al (.a 0 0) [])])), (1, (.v (.int .i64 (wr.i64 ((wr.i64 ((wr.i64 (b116_ + 1)) + 1)) + 1))), [])), (5, (.v (.int .i64 b117_), []))], [], [(0, [(0, .ex 1000000007 true (List.map GTerm.c (((i118_.set ((b117_).toNat) (GTerm.mk b116_ f121_.gName f121_.gNum f121_.gKids)).set ((b117_).toNat) (GTerm.mk f123_.gKind e122_ f123_.gNum f123_.gKids)).set ((b117_).toNat) (GTerm.mk f124_.gKind f124_.gName (wr.i64 ((wr.i64 (b116_ + 1)) + 1)) f124_.gKids))))])]⟩ _ (by kernel_rfl) .nil ?_
            obtain ⟨f125_, h101, h95⟩ := obind h95
            obtain ⟨m126_, h102, h95⟩ := obind h95
            refine Wc.region [{}, {}, {}, {}, { v := some (.slx) }, {}, { c := some (List.map GTerm.c ((((i118_.set ((b117_).toNat) (GTerm.mk b116_ f121_.gName f121_.gNum f121_.gKids)).set ((b117_).toNat) (GTerm.mk f123_.gKind e122_ f123_.gNum f123_.gKids)).set ((b117_).toNat) (GTerm.mk f124_.gKind f124_.gName (wr.i64 ((wr.i64 (b116_ + 1)) + 1)) f124_.gKids)).set ((b117_).toNat) (GTerm.mk f125_.gKind f125_.gName f125_.gNum m126_.1))), io := [0], r := some (.v (.int .i64 m126_.2) []), outs := [(0, .v .undef [(0, .ex 1000000007 true (List.map GTerm.c m126_.1))])], ioc := [(0, .ex 1000000007 true (List.map GTerm.c f125_.gKids))] }] [] [0, 1, 5] [] [0] ⟨[(0, (.v (.slx), [(0, .al (.a 0 0) [])])), (1, (.v (.int .i64 m126_.2), [])), (5, (.v (.int .i64 b117_), []))], [], [(0, [(0, .ex 1000000007 true (List.map GTerm.c ((((i118_.set ((b117_).toNat) (GTerm.mk b116_ f121_.gName f121_.gNum f121_.gKids)).set ((b117_).toNat) (GTerm.mk f123_.gKind e122_ f123_.gNum f123_.gKids)).set ((b117_).toNat) (GTerm.mk f124_.gKind f124_.gName (wr.i64 ((wr.i64 (b116_ + 1)) + 1)) f124_.gKids)).set ((b117_).toNat) (GTerm.mk f125_.gKind f125_.gName f125_.gNum m126_.1))))])]⟩ _ (by kernel_rfl) (.cons (ix_obl (c := GTerm.c) GTerm.c_len h101) (.cons (el_oblD (sz := 4) (off := 3) (s := 1) (ag := false) (v := .slx) (c := GTerm.c) (GTerm.c_eq f125_) (at'_spec h101).2 rfl (Nat.le_of_ble_eq_true rfl) rfl) (.cons (own_obl (own := [(0, .al (.a 0 0) [(((b117_).toNat), 4, 3)])]) (p := .a 0 0) (m := (b117_).toNat) (sz := 4) (off := 3) (js := [0]) rfl) (.cons (seg_obl (sz := 4) (off := 3) (n := [.sl (List.map GTerm.c f125_.gKids)]) (c := GTerm.c) (GTerm.c_eq f125_) (at'_spec h101).2 rfl (Nat.le_of_ble_eq_true rfl) rfl) (.cons (mod_obl (off := 3) (new := [.sl (List.map GTerm.c m126_.1)]) (c := GTerm.c) (GTerm.c_eq f125_) (GTerm.c_eq (GTerm.mk f125_.gKind f125_.gName f125_.gNum m126_.1)) (at'_spec h101).2 rfl) (.cons (FnO.any (args := [.io (.slx) [(0, .ex 1000000007 true (List.map GTerm.c f125_.gKids))], .v (.int .i64 (wr.i64 ((wr.i64 ((wr.i64 (b116_ + 1)) + 1)) + 1))) []]) (ih_plaws_markTermS h102)) .nil)))))) ?_
            refine Wc.region [] [] [0, 1, 5] [] [0] ⟨[(0, (.v (.slx), [(0, .al (.a 0 0) [])])), (1, (.v (.int .i64 m126_.2), [])), (5, (.v (.int .i64 (wr.i64 (b117_ + 1))), []))], [], [(0, [(0, .ex 1000000007 true (List.map GTerm.c ((((i118_.set ((b117_).toNat) (GTerm.mk b116_ f121_.gName f121_.gNum f121_.gKids)).set ((b117_).toNat) (GTerm.mk f123_.gKind e122_ f123_.gNum f123_.gKids)).set ((b117_).toNat) (GTerm.mk f124_.gKind f124_.gName (wr.i64 ((wr.i64 (b116_ + 1)) + 1)) f124_.gKids)).set ((b117_).toNat) (GTerm.mk f125_.gKind f125_.gName f125_.gNum m126_.1))))])]⟩ _ (by kernel_rfl) .nil ?_
            exact ⟨_, Nat.lt_succ_self _, _, _, _, rfl, h95⟩
          · refine Wc.condF h96 (by kernel_rfl) ?_
            refine Wc.fix (st' := ⟨[(1, (.v (.int .i64 b116_), []))], [], [(0, [(0, .ex 1000000007 true (List.map GTerm.c i118_))])]⟩) [] [1] [] [0] (by kernel_rfl) ?_
            refine Wc.exit ?_
            obtain rfl := Option.some.inj h95
            exact ⟨_, _, rfl, rfl⟩
      · rintro st ⟨b119_, i120_, rfl, rfl⟩
        refine Wc.seq ?_
        refine Wc.region [] [] [4] [] [0] ⟨[(4, (.v (.int .i64 b119_), []))], [], [(0, [(0, .ex 1000000007 true (List.map GTerm.c i120_))])]⟩ _ (by kernel_rfl) .nil ?_
        refine Wc.ret ?_
        obtain rfl := Option.some.inj h
        exact ⟨.inl rfl, by kernel_rfl, by kernel_rfl⟩
theorem claws_markTermS {k : Nat} {i114_ : List GTerm} {b115_ : Int} {r : (List GTerm) × Int} (h : plaws_markTermS k i114_ b115_ = some r) : FnO Try.prog 38 [.io (.slx) [(0, .ex 1000000007 true (List.map GTerm.c i114_))], .v (.int .i64 b115_) []] (.v (.int .i64 r.2) []) [(0, .v .undef [(0, .ex 1000000007 true (List.map GTerm.c r.1))])] := (all_plaws_markTermS k) h

/-- laws.markTerm -/
def plaws_markTerm (k : Nat) (f127_ : GTerm) (b128_ : Int) : Option (GTerm × Int) :=
  (plaws_markTermS k f127_.gKids b128_).bind fun m129_ =>
  some (GTerm.mk f127_.gKind f127_.gName f127_.gNum m129_.1, m129_.2)
theorem claws_markTerm {k : Nat} {f127_ : GTerm} {b128_ : Int} {r : GTerm × Int} (h : plaws_markTerm k f127_ b128_ = some r) : FnO Try.prog 21 [.io (.agg [.int .i64 f127_.gKind, .str f127_.gName, .int .i64 f127_.gNum, .slx]) [(3, .ex 1000000007 true (List.map GTerm.c f127_.gKids))], .v (.int .i64 b128_) []] (.v (.int .i64 r.2) []) [(0, .v .undef [(3, .ex 1000000007 true (List.map GTerm.c r.1.gKids))])] := by
  refine FnO.of Try.func21 (rfl : Try.f21.body = some _) (Nat.le_of_ble_eq_true (by kernel_rfl)) (Nat.le_of_ble_eq_true (by kernel_rfl)) ?_
  intro w0 X0 Fin pv0 pb
  unfold plaws_markTerm at h
  refine Wc.seq ?_
  refine Wc.region [] [] [1, 2] [2] [0] ⟨[(1, (.v (.int .i64 b128_), [])), (2, (.ptr 2 0, []))], [(2, .cells [.int .i64 f127_.gKind, .str f127_.gName, .int .i64 f127_.gNum, .slx] [(3, .al (.a 0 3) [])])], [(0, [(3, .ex 1000000007 true (List.map GTerm.c f127_.gKids))])]⟩ _ (by kernel_rfl) .nil ?_
  refine Wc.seq ?_
  obtain ⟨m129_, h103, h⟩ := obind h
  refine Wc.region [{}, {}, {}, { io := [0], r := some (.v (.int .i64 m129_.2) []), outs := [(0, .v .undef [(0, .ex 1000000007 true (List.map GTerm.c m129_.1))])] }] [] [1] [] [0] ⟨[(1, (.v (.int .i64 m129_.2), []))], [], [(0, [(3, .ex 1000000007 true (List.map GTerm.c m129_.1))])]⟩ _ (by kernel_rfl) (.cons (FnO.any (args := [.io (.slx) [(0, .ex 1000000007 true (List.map GTerm.c f127_.gKids))], .v (.int .i64 b128_) []]) (claws_markTermS h103)) .nil) ?_
  refine Wc.seq ?_
  refine Wc.region [] [] [4] [] [0] ⟨[(4, (.v (.int .i64 m129_.2), []))], [], [(0, [(3, .ex 1000000007 true (List.map GTerm.c m129_.1))])]⟩ _ (by kernel_rfl) .nil ?_
  refine Wc.ret ?_
  obtain rfl := Option.some.inj h
  exact ⟨.inl rfl, by kernel_rfl, by kernel_rfl⟩

def plaws_heldTermS_L1 (k : Nat) (rlaws_heldTermS : (List GTerm) → Int → Option Int) (i130_ : List GTerm) : Nat → Int → Int → Option (Out Int Int)
  | 0, _, _ => none
  | m + 1, b132_, b133_ =>
    if (decide (b133_ < (i130_.length : Int))) = true then
      (at' i130_ b133_).bind fun f135_ =>
      if (f135_.gKind != b132_) = true then
        some (.ret (-1))
      else
        (at' i130_ b133_).bind fun f136_ =>
        (plaws_markText k (wr.i64 (b132_ + 1))).bind fun e137_ =>
        if (!(sEq f136_.gName e137_)) = true then
          some (.ret (-1))
        else
          (at' i130_ b133_).bind fun f138_ =>
          if (f138_.gNum != (wr.i64 ((wr.i64 (b132_ + 1)) + 1))) = true then
            some (.ret (-1))
          else
            (at' i130_ b133_).bind fun f139_ =>
            (rlaws_heldTermS f139_.gKids (wr.i64 ((wr.i64 ((wr.i64 (b132_ + 1)) + 1)) + 1))).bind fun b140_ =>
            if (decide (b140_ < 0)) = true then
              some (.ret (-1))
            else
              plaws_heldTermS_L1 k rlaws_heldTermS i130_ m b140_ (wr.i64 (b133_ + 1))
    else
      some (.done b132_)
mutual
/-- laws.heldTermS -/
def plaws_heldTermS : Nat → (List GTerm) → Int → Option Int
  | 0, _, _ => none
  | k + 1, i130_, b131_ =>
    (plaws_heldTermS_L1 k (plaws_heldTermS k) i130_ k b131_ 0).bind fun out1 => match out1 with
    | .ret r => some r
    | .done b134_ =>
      some b134_
end
theorem all_plaws_heldTermS : ∀ k : Nat, (∀ {i130_ : List GTerm} {b131_ : Int} {r : Int}, plaws_heldTermS k i130_ b131_ = some r → FnO Try.prog 39 [.v (.sl (List.map GTerm.c i130_)) [], .v (.int .i64 b131_) []] (.v (.int .i64 r) []) []) := by
  intro k
  induction k with
  | zero =>
    · intro i130_ b131_ r h
      exact (onone (by rw [plaws_heldTermS] at h; exact h)).elim
  | succ k ih =>
    have ih_plaws_heldTermS := @ih
    · intro i130_ b131_ r h
      rw [plaws_heldTermS] at h
      refine FnO.of Try.func39 (rfl : Try.f39.body = some _) (Nat.le_of_ble_eq_true (by kernel_rfl)) (Nat.le_of_ble_eq_true (by kernel_rfl)) ?_
      intro w0 X0 Fin pv0 pb
      refine Wc.seq ?_
      refine Wc.region [] [] [0, 1] [] [] ⟨[(0, (.v (.sl (List.map GTerm.c i130_)), [])), (1, (.v (.int .i64 b131_), []))], [], []⟩ _ (by kernel_rfl) .nil ?_
      refine Wc.seq ?_
      refine Wc.seq ?_
      refine Wc.region [] [] [0, 1, 5] [] [] ⟨[(0, (.v (.sl (List.map GTerm.c i130_)), [])), (1, (.v (.int .i64 b131_), [])), (5, (.v (.int .i64 0), []))], [], []⟩ _ (by kernel_rfl) .nil ?_
      obtain ⟨out1, h104, h⟩ := obind h
      refine Wc.lastJ (fun st => ∃ (b134_ : Int), out1 = .done b134_ ∧ st = ⟨[(1, (.v (.int .i64 b134_), []))], [], []⟩) ?_ ?_
      · refine Wc.block ?_
        refine Wc.loop (fun m st => ∃ (b132_ : Int) (b133_ : Int), st = ⟨[(0, (.v (.sl (List.map GTerm.c i130_)), [])), (1, (.v (.int .i64 b132_), [])), (5, (.v (.int .i64 b133_), []))], [], []⟩ ∧ plaws_heldTermS_L1 k (plaws_heldTermS k) i130_ m b132_ b133_ = some out1) ?_ k ⟨_, _, rfl, h104⟩
        rintro m st ⟨b132_, b133_, rfl, h104⟩
        cases m with
        | zero => exact (onone h104).elim
        | succ m =>
          refine Wc.seq ?_
          refine Wc.seq ?_
          refine Wc.region [{}, {}, { v := some (.int .i64 (i130_.length : Int)) }] [] [0, 1, 5, 9] [] [] ⟨[(0, (.v (.sl (List.map GTerm.c i130_)), [])), (1, (.v (.int .i64 b132_), [])), (5, (.v (.int .i64 b133_), [])), (9, (.v (.bool (decide (b133_ < (i130_.length : Int)))), []))], [], []⟩ _ (by kernel_rfl) (.cons (len_obl GTerm.c i130_) .nil) ?_
          rcases oif h104 with ⟨h105, h104⟩ | ⟨h105, h104⟩
          · refine Wc.condT h105 (by kernel_rfl) ?_
            refine Wc.fix (st' := ⟨[(0, (.v (.sl (List.map GTerm.c i130_)), [])), (1, (.v (.int .i64 b132_), [])), (5, (.v (.int .i64 b133_), []))], [], []⟩) [] [0, 1, 5] [] [] (by kernel_rfl) ?_
            refine Wc.skip ?_
            refine Wc.seq ?_
            refine Wc.block ?_
            refine Wc.seq ?_
            refine Wc.seq ?_
            obtain ⟨f135_, h106, h104⟩ := obind h104
            refine Wc.region [{}, {}, { v := some (.vptr [.int .i64 f135_.gKind, .str f135_.gName, .int .i64 f135_.gNum, .sl (List.map GTerm.c f135_.gKids)]) }] [] [0, 1, 5, 18] [] [] ⟨[(0, (.v (.sl (List.map GTerm.c i130_)), [])), (1, (.v (.int .i64 b132_), [])), (5, (.v (.int .i64 b133_), [])), (18, (.v (.bool (f135_.gKind != b132_)), []))], [], []⟩ _ (by kernel_rfl) (.cons (at_obl (c := GTerm.c) (GTerm.c_eq f135_) GTerm.c_len h106) (.cons (len_ok 1 [.int .i64 f135_.gKind, .str f135_.gName, .int .i64 f135_.gNum, .sl (List.map GTerm.c f135_.gKids)]) .nil)) ?_
            rcases oif h104 with ⟨h107, h104⟩ | ⟨h107, h104⟩
            · refine Wc.condT h107 (by kernel_rfl) ?_
              refine Wc.seq ?_
              refine Wc.region [] [] [4] [] [] ⟨[(4, (.v (.int .i64 (-1)), []))], [], []⟩ _ (by kernel_rfl) .nil ?_
              refine Wc.ret ?_
              obtain rfl := Option.some.inj h104
              obtain rfl := Option.some.inj h
              exact ⟨.inl rfl, by kernel_rfl, by kernel_rfl⟩
            · refine Wc.condF h107 (by kernel_rfl) ?_
              refine Wc.fix (st' := ⟨[(0, (.v (.sl (List.map GTerm.c i130_)), [])), (1, (.v (.int .i64 b132_), [])), (5, (.v (.int .i64 b133_), []))], [], []⟩) [] [0, 1, 5] [] [] (by kernel_rfl) ?_
              refine Wc.skip ?_
              refine Wc.seq ?_
              refine Wc.region [] [] [0, 1, 5] [] [] ⟨[(0, (.v (.sl (List.map GTerm.c i130_)), [])), (1, (.v (.int .i64 (wr.i64 (b132_ + 1))), [])), (5, (.v (.int .i64 b133_), []))], [], []⟩ _ (by kernel_rfl) .nil ?_
              refine Wc.seq ?_
              refine Wc.seq ?_
              obtain ⟨f136_, h108, h104⟩ := obind h104
              obtain ⟨e137_, h109, h104⟩ := obind h104
              refine Wc.draw hmix [{}, {}, { v := some (.vptr [.int .i64 f136_.gKind, .str f136_.gName, .int .i64 f136_.gNum, .sl (List.map GTerm.c f136_.gKids)]) }, {}, {}, {}, { r := some (.v (.str e137_) []) }] [] [0, 1, 5, 28] [] [] ⟨[(0, (.v (.sl (List.map GTerm.c i130_)), [])), (1, (.v (.int .i64 (wr.i64 (b132_ + 1))), [])), (5, (.v (.int .i64 b133_), [])), (28, (.v (.bool (!(sEq f136_.gName e137_))), []))], [], []⟩ _ (by kernel_rfl) (fun X => by kernel_rfl) (.cons (at_obl (c := GTerm.c) (GTerm.c_eq f136_) GTerm.c_len h108) (.cons (len_ok 1 [.str f136_.gName, .int .i64 f136_.gNum, .sl (List.map GTerm.c f136_.gKids)]) (.cons (claws_markText h109) .nil))) ?_
              rcases oif h104 with ⟨h110, h104⟩ | ⟨h110, h104⟩
              · refine Wc.condT h110 (by kernel_rfl) ?_
                refine Wc.seq ?_
                refine Wc.region [] [] [4] [] [] ⟨[(4, (.v (.int .i64 (-1)), []))], [], []⟩ _ (by kernel_rfl) .nil ?_
                refine Wc.ret ?_
                obtain rfl := Option.some.inj h104
                obtain rfl := Option.some.inj h
                exact ⟨.inl rfl, by kernel_rfl, by kernel_rfl⟩
              · refine Wc.condF h110 (by kernel_rfl) ?_
                refine Wc.fix (st' := ⟨[(0, (.v (.sl (List.map GTerm.c i130_)), [])), (1, (.v (.int .i64 (wr.i64 (b132_ + 1))), [])), (5, (.v (.int .i64 b133_), []))], [], []⟩) [] [0, 1, 5] [] [] (by kernel_rfl) ?_
                refine Wc.skip ?_
                refine Wc.seq ?_
                refine Wc.region [] [] [0, 1, 5] [] [] ⟨[(0, (.v (.sl (List.map GTerm.c i130_)), [])), (1, (.v (.int .i64 (wr.i64 ((wr.i64 (b132_ + 1)) + 1))), [])), (5, (.v (.int .i64 b133_), []))], [], []⟩ _ (by kernel_rfl) .nil ?_
                refine Wc.seq ?_
                refine Wc.seq ?_
                obtain ⟨f138_, h111, h104⟩ := obind h104
                refine Wc.region [{}, {}, { v := some (.vptr [.int .i64 f138_.gKind, .str f138_.gName, .int .i64 f138_.gNum, .sl (List.map GTerm.c f138_.gKids)]) }] [] [0, 1, 5, 37] [] [] ⟨[(0, (.v (.sl (List.map GTerm.c i130_)), [])), (1, (.v (.int .i64 (wr.i64 ((wr.i64 (b132_ + 1)) + 1))), [])), (5, (.v (.int .i64 b133_), [])), (37, (.v (.bool (f138_.gNum != (wr.i64 ((wr.i64 (b132_ + 1)) + 1)))), []))], [], []⟩ _ (by kernel_rfl) (.cons (at_obl (c := GTerm.c) (GTerm.c_eq f138_) GTerm.c_len h111) (.cons (len_ok 1 [.int .i64 f138_.gNum, .sl (List.map GTerm.c f138_.gKids)]) .nil)) ?_
                rcases oif h104 with ⟨h112, h104⟩ | ⟨h112, h104⟩
                · refine Wc.condT h112 (by kernel_rfl) ?_
                  refine Wc.seq ?_
                  refine Wc.region [] [] [4] [] [] ⟨[(4, (.v (.int .i64 (-1)), []))], [], []⟩ _ (by kernel_rfl) .nil ?_
                  refine Wc.ret ?_
                  obtain rfl := Option.some.inj h104
                  obtain rfl := Option.some.inj h
                  exact ⟨.inl rfl, by kernel_rfl, by kernel_rfl⟩
                · refine Wc.condF h112 (by kernel_rfl) ?_
                  refine Wc.fix (st' := ⟨[(0, (.v (.sl (List.map GTerm.c i130_)), [])), (1, (.v (.int .i64 (wr.i64 ((wr.i64 (b132_ + 1)) + 1))), [])), (5, (.v (.int .i64 b133_), []))], [], []⟩) [] [0, 1, 5] [] [] (by kernel_rfl) ?_
                  refine Wc.skip ?_
                  refine Wc.seq ?_
                  refine Wc.region [] [] [0, 1, 5] [] [] ⟨[(0, (.v (.sl (List.map GTerm.c i130_)), [])), (1, (.v (.int .i64 (wr.i64 ((wr.i64 ((wr.i64 (b132_ + 1)) + 1)) + 1))), [])), (5, (.v (.int .i64 b133_), []))], [], []⟩ _ (by kernel_rfl) .nil ?_
                  refine Wc.seq ?_
                  obtain ⟨f139_, h113, h104⟩ := obind h104
                  obtain ⟨b140_, h114, h104⟩ := obind h104
                  refine Wc.region [{}, {}, { v := some (.vptr [.int .i64 f139_.gKind, .str f139_.gName, .int .i64 f139_.gNum, .sl (List.map GTerm.c f139_.gKids)]) }, {}, {}, {}, { r := some (.v (.int .i64 b140_) []) }] [] [0, 1, 5] [] [] ⟨[(0, (.v (.sl (List.map GTerm.c i130_)), [])), (1, (.v (.int .i64 b140_), [])), (5, (.v (.int .i64 b133_), []))], [], []⟩ _ (by kernel_rfl) (.cons (at_obl (c := GTerm.c) (GTerm.c_eq f139_) GTerm.c_len h113) (.cons (len_ok 1 [.sl (List.map GTerm.c f139_.gKids)]) (.cons (ih_plaws_heldTermS h114) .nil))) ?_
                  refine Wc.seq ?_
                  refine Wc.region [] [] [0, 1, 5, 48] [] [] ⟨[(0, (.v (.sl (List.map GTerm.c i130_)), [])), (1, (.v (.int .i64 b140_), [])), (5, (.v (.int .i64 b133_), [])), (48, (.v (.bool (decide (b140_ < 0))), []))], [], []⟩ _ (by kernel_rfl) .nil ?_
                  rcases oif h104 with ⟨h115, h104⟩ | ⟨h115, h104⟩
                  · refine Wc.condT h115 (by kernel_rfl) ?_
                    refine Wc.seq ?_
                    refine Wc.region [] [] [4] [] [] ⟨[(4, (.v (.int .i64 (-1)), []))], [], []⟩ _ (by kernel_rfl) .nil ?_
                    refine Wc.ret ?_
                    obtain rfl := Option.some.inj h104
                    obtain rfl := Option.some.inj h
                    exact ⟨.inl rfl, by kernel_rfl, by kernel_rfl⟩
                  · refine Wc.condF h115 (by kernel_rfl) ?_
                    refine Wc.fix (st' := ⟨[(0, (.v (.sl (List.map GTerm.c i130_)), [])), (1, (.v (.int .i64 b140_), [])), (5, (.v (.int .i64 b133_), []))], [], []⟩) [] [0, 1, 5] [] [] (by kernel_rfl) ?_
                    refine Wc.skip ?_
                    refine Wc.region [] [] [0, 1, 5] [] [] ⟨[(0, (.v (.sl (List.map GTerm.c i130_)), [])), (1, (.v (.int .i64 b140_), [])), (5, (.v (.int .i64 (wr.i64 (b133_ + 1))), []))], [], []⟩ _ (by kernel_rfl) .nil ?_
                    exact ⟨_, Nat.lt_succ_self _, _, _, rfl, h104⟩
          · refine Wc.condF h105 (by kernel_rfl) ?_
            refine Wc.fix (st' := ⟨[(1, (.v (.int .i64 b132_), []))], [], []⟩) [] [1] [] [] (by kernel_rfl) ?_
            refine Wc.exit ?_
            obtain rfl := Option.some.inj h104
            exact ⟨_, rfl, rfl⟩
      · rintro st ⟨b134_, rfl, rfl⟩
        refine Wc.seq ?_
        refine Wc.region [] [] [4] [] [] ⟨[(4, (.v (.int .i64 b134_), []))], [], []⟩ _ (by kernel_rfl) .nil ?_
        refine Wc.ret ?_
        obtain rfl := Option.some.inj h
        exact ⟨.inl rfl, by kernel_rfl, by kernel_rfl⟩
theorem claws_heldTermS {k : Nat} {i130_ : List GTerm} {b131_ : Int} {r : Int} (h : plaws_heldTermS k i130_ b131_ = some r) : FnO Try.prog 39 [.v (.sl (List.map GTerm.c i130_)) [], .v (.int .i64 b131_) []] (.v (.int .i64 r) []) [] := (all_plaws_heldTermS k) h

/-- laws.heldTerm -/
def plaws_heldTerm (k : Nat) (f141_ : GTerm) (b142_ : Int) : Option Int :=
  (plaws_heldTermS k f141_.gKids b142_).bind fun b143_ =>
  if (decide (b143_ < 0)) = true then
    some (-1)
  else
    some b143_
theorem claws_heldTerm {k : Nat} {f141_ : GTerm} {b142_ : Int} {r : Int} (h : plaws_heldTerm k f141_ b142_ = some r) : FnO Try.prog 22 [.v (.agg [.int .i64 f141_.gKind, .str f141_.gName, .int .i64 f141_.gNum, .sl (List.map GTerm.c f141_.gKids)]) [], .v (.int .i64 b142_) []] (.v (.int .i64 r) []) [] := by
  refine FnO.of Try.func22 (rfl : Try.f22.body = some _) (Nat.le_of_ble_eq_true (by kernel_rfl)) (Nat.le_of_ble_eq_true (by kernel_rfl)) ?_
  intro w0 X0 Fin pv0 pb
  unfold plaws_heldTerm at h
  refine Wc.seq ?_
  refine Wc.region [] [] [1, 2] [2] [] ⟨[(1, (.v (.int .i64 b142_), [])), (2, (.ptr 2 0, []))], [(2, .cells [.int .i64 f141_.gKind, .str f141_.gName, .int .i64 f141_.gNum, .sl (List.map GTerm.c f141_.gKids)] [])], []⟩ _ (by kernel_rfl) .nil ?_
  refine Wc.seq ?_
  obtain ⟨b143_, h116, h⟩ := obind h
  refine Wc.region [{}, {}, {}, { r := some (.v (.int .i64 b143_) []) }] [] [1] [] [] ⟨[(1, (.v (.int .i64 b143_), []))], [], []⟩ _ (by kernel_rfl) (.cons (claws_heldTermS h116) .nil) ?_
  refine Wc.seq ?_
  refine Wc.seq ?_
  refine Wc.region [] [] [1, 10] [] [] ⟨[(1, (.v (.int .i64 b143_), [])), (10, (.v (.bool (decide (b143_ < 0))), []))], [], []⟩ _ (by kernel_rfl) .nil ?_
  rcases oif h with ⟨h117, h⟩ | ⟨h117, h⟩
  · refine Wc.condT h117 (by kernel_rfl) ?_
    refine Wc.seq ?_
    refine Wc.region [] [] [4] [] [] ⟨[(4, (.v (.int .i64 (-1)), []))], [], []⟩ _ (by kernel_rfl) .nil ?_
    refine Wc.ret ?_
    obtain rfl := Option.some.inj h
    exact ⟨.inl rfl, by kernel_rfl, by kernel_rfl⟩
  · refine Wc.condF h117 (by kernel_rfl) ?_
    refine Wc.fix (st' := ⟨[(1, (.v (.int .i64 b143_), []))], [], []⟩) [] [1] [] [] (by kernel_rfl) ?_
    refine Wc.skip ?_
    refine Wc.seq ?_
    refine Wc.region [] [] [4] [] [] ⟨[(4, (.v (.int .i64 b143_), []))], [], []⟩ _ (by kernel_rfl) .nil ?_
    refine Wc.ret ?_
    obtain rfl := Option.some.inj h
    exact ⟨.inl rfl, by kernel_rfl, by kernel_rfl⟩

def plaws_toPartS_d_L1 (k : Nat) (c152_ : List GPart) : Nat → (List GPart) → Int → Option (Out (List GPart) (List GPart))
  | 0, _, _ => none
  | m + 1, c153_, b154_ =>
    if (decide (b154_ < (c152_.length : Int))) = true then
      (at' c152_ b154_).bind fun a156_ =>
      (plaws_toPart k a156_).bind fun a157_ =>
      (at' c153_ b154_).bind fun a158_ =>
      plaws_toPartS_d_L1 k c152_ m (c153_.set ((b154_).toNat) a157_) (wr.i64 (b154_ + 1))
    else
      some (.done c153_)
/-- laws.toPartS -/
def plaws_toPartS_d (k : Nat) (c152_ : List GPart) : Option (List GPart) :=
  if 0 ≤ (c152_.length : Int) ∧ (c152_.length : Int) ≤ 1073741824 then
    (plaws_toPartS_d_L1 k c152_ k (List.replicate ((c152_.length : Int)).toNat (GPart.mk false (bs []))) 0).bind fun out1 => match out1 with
    | .ret r => some r
    | .done c155_ =>
      some c155_
  else none
theorem claws_toPartS_d {k : Nat} {c152_ : List GPart} {r : (List GPart)} (h : plaws_toPartS_d k c152_ = some r) : FnO Try.prog 58 [.v (.sl (List.map GPart.c c152_)) []] (.v (.slx) [(0, .ex 106 true (List.map GPart.c r))]) [] := by
  refine FnO.of Try.func58 (rfl : Try.f58.body = some _) (Nat.le_of_ble_eq_true (by kernel_rfl)) (Nat.le_of_ble_eq_true (by kernel_rfl)) ?_
  intro w0 X0 Fin pv0 pb
  unfold plaws_toPartS_d at h
  refine Wc.seq ?_
  refine Wc.region [] [] [0] [] [] ⟨[(0, (.v (.sl (List.map GPart.c c152_)), []))], [], []⟩ _ (by kernel_rfl) .nil ?_
  refine Wc.seq ?_
  obtain ⟨h124, h⟩ := oguard h
  refine Wc.region [{}, { v := some (.int .i64 (c152_.length : Int)) }, { c := some (List.map GPart.c (List.replicate ((c152_.length : Int)).toNat (GPart.mk false (bs [])))) }, { tk := [7] }] [] [0, 3] [] [] ⟨[(0, (.v (.sl (List.map GPart.c c152_)), [])), (3, (.v (.slx), [(0, .ex 106 true (List.map GPart.c (List.replicate ((c152_.length : Int)).toNat (GPart.mk false (bs [])))))]))], [], []⟩ _ (by kernel_rfl) (.cons (len_obl GPart.c c152_) (.cons (rep_re (c := GPart.c) (GPart.c_eq (GPart.mk false (bs []))) ((c152_.length : Int)).toNat) (.cons (ms_obl h124) .nil))) ?_
  refine Wc.seq ?_
  refine Wc.seq ?_
  refine Wc.region [] [] [0, 3, 4] [] [] ⟨[(0, (.v (.sl (List.map GPart.c c152_)), [])), (3, (.v (.slx), [(0, .ex 106 true (List.map GPart.c (List.replicate ((c152_.length : Int)).toNat (GPart.mk false (bs [])))))])), (4, (.v (.int .i64 0), []))], [], []⟩ _ (by kernel_rfl) .nil ?_
  obtain ⟨out1, h125, h⟩ := obind h
  refine Wc.lastJ (fun st => ∃ (c155_ : List GPart), out1 = .done c155_ ∧ st = ⟨[(3, (.v (.slx), [(0, .ex 106 true (List.map GPart.c c155_))]))], [], []⟩) ?_ ?_
  · refine Wc.block ?_
    refine Wc.loop (fun m st => ∃ (c153_ : List GPart) (b154_ : Int), st = ⟨[(0, (.v (.sl (List.map GPart.c c152_)), [])), (3, (.v (.slx), [(0, .ex 106 true (List.map GPart.c c153_))])), (4, (.v (.int .i64 b154_), []))], [], []⟩ ∧ plaws_toPartS_d_L1 k c152_ m c153_ b154_ = some out1) ?_ k ⟨_, _, rfl, h125⟩
    rintro m st ⟨c153_, b154_, rfl, h125⟩
    cases m with
    | zero => exact (onone h125).elim
    | succ m =>
      refine Wc.seq ?_
      refine Wc.seq ?_
      refine Wc.region [{}, {}, { v := some (.int .i64 (c152_.length : Int)) }] [] [0, 3, 4, 11] [] [] ⟨[(0, (.v (.sl (List.map GPart.c c152_)), [])), (3, (.v (.slx), [(0, .ex 106 true (List.map GPart.c c153_))])), (4, (.v (.int .i64 b154_), [])), (11, (.v (.bool (decide (b154_ < (c152_.length : Int)))), []))], [], []⟩ _ (by kernel_rfl) (.cons (len_obl GPart.c c152_) .nil) ?_
      rcases oif h125 with ⟨h126, h125⟩ | ⟨h126, h125⟩
      · refine Wc.condT h126 (by kernel_rfl) ?_
        refine Wc.fix (st' := ⟨[(0, (.v (.sl (List.map GPart.c c152_)), [])), (3, (.v (.slx), [(0, .ex 106 true (List.map GPart.c c153_))])), (4, (.v (.int .i64 b154_), []))], [], []⟩) [] [0, 3, 4] [] [] (by kernel_rfl) ?_
        refine Wc.skip ?_
        refine Wc.seq ?_
        refine Wc.block ?_
        obtain ⟨a156_, h127, h125⟩ := obind h125
        obtain ⟨a157_, h128, h125⟩ := obind h125
        obtain ⟨a158_, h129, h125⟩ := obind h125
        refine Wc.region [{}, {}, {}, {}, { v := some (.vptr [.bool a156_.gWord, .str a156_.gName]) }, {}, { r := some (.v (.agg [.bool a157_.gWord, .str a157_.gName]) []) }, {}, { c := some (List.map GPart.c (c153_.set ((b154_).toNat) a157_)) }] [] [0, 3, 4] [] [] ⟨[(0, (.v (.sl (List.map GPart.c c152_)), [])), (3, (.v (.slx), [(0, .ex 106 true (List.map GPart.c (c153_.set ((b154_).toNat) a157_)))])), (4, (.v (.int .i64 b154_), []))], [], []⟩ _ (by kernel_rfl) (.cons (at_obl (c := GPart.c) (GPart.c_eq a156_) GPart.c_len h127) (.cons (len_ok 2 [.bool a156_.gWord, .str a156_.gName]) (.cons (claws_toPart h128) (.cons (ix_obl (c := GPart.c) GPart.c_len h129) (.cons (mod_obl (off := 0) (new := [.bool a157_.gWord, .str a157_.gName]) (c := GPart.c) (GPart.c_eq a158_) (GPart.c_eq a157_) (at'_spec h129).2 rfl) (.cons (st_obl (sz := 2) (off := 0) (s := 2) (c := GPart.c) (GPart.c_eq a158_) (at'_spec h129).2 rfl (Nat.le_of_ble_eq_true rfl)) .nil)))))) ?_
        refine Wc.region [] [] [0, 3, 4] [] [] ⟨[(0, (.v (.sl (List.map GPart.c c152_)), [])), (3, (.v (.slx), [(0, .ex 106 true (List.map GPart.c (c153_.set ((b154_).toNat) a157_)))])), (4, (.v (.int .i64 (wr.i64 (b154_ + 1))), []))], [], []⟩ _ (by kernel_rfl) .nil ?_
        exact ⟨_, Nat.lt_succ_self _, _, _, rfl, h125⟩
      · refine Wc.condF h126 (by kernel_rfl) ?_
        refine Wc.fix (st' := ⟨[(3, (.v (.slx), [(0, .ex 106 true (List.map GPart.c c153_))]))], [], []⟩) [] [3] [] [] (by kernel_rfl) ?_
        refine Wc.exit ?_
        obtain rfl := Option.some.inj h125
        exact ⟨_, rfl, rfl⟩
  · rintro st ⟨c155_, rfl, rfl⟩
    refine Wc.seq ?_
    refine Wc.region [{ tk := [3] }, { tk := [22] }] [] [2] [] [] ⟨[(2, (.v (.slx), [(0, .ex 106 true (List.map GPart.c c155_))]))], [], []⟩ _ (by kernel_rfl) .nil ?_
    refine Wc.ret ?_
    obtain rfl := Option.some.inj h
    exact ⟨.inl rfl, by kernel_rfl, by kernel_rfl⟩

/-- impl.atom -/
def pimpl_atom_d (k : Nat) (e146_ : ByteArray) : Option GTerm :=
  some (GTerm.mk 2 e146_ 0 [])
theorem cimpl_atom_d {k : Nat} {e146_ : ByteArray} {r : GTerm} (h : pimpl_atom_d k e146_ = some r) : FnO Try.prog 59 [.v (.str e146_) []] (.v (.agg [.int .i64 r.gKind, .str r.gName, .int .i64 r.gNum, .slx]) [(3, .ex 40 true (List.map GTerm.c r.gKids))]) [] := by
  refine FnO.of Try.func59 (rfl : Try.f59.body = some _) (Nat.le_of_ble_eq_true (by kernel_rfl)) (Nat.le_of_ble_eq_true (by kernel_rfl)) ?_
  intro w0 X0 Fin pv0 pb
  unfold pimpl_atom_d at h
  refine Wc.seq ?_
  refine Wc.region [] [] [0, 2] [2] [] ⟨[(0, (.v (.str e146_), [])), (2, (.ptr 2 0, []))], [(2, .cells [.int .i64 0, .str (bs []), .int .i64 0, .sl (List.map GTerm.c [])] [(3, .app 40)])], []⟩ _ (by kernel_rfl) .nil ?_
  refine Wc.seq ?_
  refine Wc.region [{}, {}, { tk := [4] }] [] [2] [2] [] ⟨[(2, (.ptr 2 0, []))], [(2, .cells [.int .i64 2, .str e146_, .int .i64 0, .sl (List.map GTerm.c [])] [(3, .app 40)])], []⟩ _ (by kernel_rfl) .nil ?_
  refine Wc.fix (st' := ⟨[(2, (.ptr 2 0, []))], [(2, .cells [.int .i64 2, .str e146_, .int .i64 0, .slx] [(3, .ex 40 true (List.map GTerm.c []))])], []⟩) [.ow (.b 2 3) true] [2] [2] [] (by kernel_rfl) ?_
  refine Wc.ret ?_
  obtain rfl := Option.some.inj h
  exact ⟨.inl rfl, by kernel_rfl, by kernel_rfl⟩

/-- impl.structure -/
def pimpl_structure_d (k : Nat) (e153_ : ByteArray) (i154_ : List GTerm) : Option GTerm :=
  some (GTerm.mk 4 e153_ 0 i154_)
theorem cimpl_structure_d {k : Nat} {e153_ : ByteArray} {i154_ : List GTerm} {r : GTerm} (h : pimpl_structure_d k e153_ i154_ = some r) : FnO Try.prog 60 [.v (.str e153_) [], .v (.slx) [(0, .ex 40 true (List.map GTerm.c i154_))]] (.v (.agg [.int .i64 r.gKind, .str r.gName, .int .i64 r.gNum, .slx]) [(3, .ex 40 true (List.map GTerm.c r.gKids))]) [] := by
  refine FnO.of Try.func60 (rfl : Try.f60.body = some _) (Nat.le_of_ble_eq_true (by kernel_rfl)) (Nat.le_of_ble_eq_true (by kernel_rfl)) ?_
  intro w0 X0 Fin pv0 pb
  unfold pimpl_structure_d at h
  refine Wc.seq ?_
  refine Wc.region [] [] [0, 1, 4] [4] [] ⟨[(0, (.v (.str e153_), [])), (1, (.v (.slx), [(0, .ex 40 true (List.map GTerm.c i154_))])), (4, (.ptr 4 0, []))], [(4, .cells [.int .i64 0, .str (bs []), .int .i64 0, .sl (List.map GTerm.c [])] [(3, .app 40)])], []⟩ _ (by kernel_rfl) .nil ?_
  refine Wc.seq ?_
  refine Wc.region [{}, { tk := [1] }, { tk := [6] }, { tk := [7] }] [] [4] [4] [] ⟨[(4, (.ptr 4 0, []))], [(4, .cells [.int .i64 4, .str e153_, .int .i64 0, .slx] [(3, .ex 40 true (List.map GTerm.c i154_))])], []⟩ _ (by kernel_rfl) .nil ?_
  refine Wc.ret ?_
  obtain rfl := Option.some.inj h
  exact ⟨.inl rfl, by kernel_rfl, by kernel_rfl⟩

/-- laws.toRule -/
def plaws_toRule_d (k : Nat) (d150_ : GRule) : Option GRule :=
  (plaws_toPartS_d k d150_.gParts).bind fun g151_ =>
  some (GRule.mk d150_.gName g151_)
theorem claws_toRule_d {k : Nat} {d150_ : GRule} {r : GRule} (h : plaws_toRule_d k d150_ = some r) : FnO Try.prog 16 [.v (.agg [.str d150_.gName, .sl (List.map GPart.c d150_.gParts)]) []] (.v (.agg [.str r.gName, .slx]) [(1, .ex 106 true (List.map GPart.c r.gParts))]) [] := by
  refine FnO.of Try.func16 (rfl : Try.f16.body = some _) (Nat.le_of_ble_eq_true (by kernel_rfl)) (Nat.le_of_ble_eq_true (by kernel_rfl)) ?_
  intro w0 X0 Fin pv0 pb
  unfold plaws_toRule_d at h
  refine Wc.seq ?_
  refine Wc.region [] [] [1, 2] [1, 2] [] ⟨[(1, (.ptr 1 0, [])), (2, (.ptr 2 0, []))], [(1, .cells [.str d150_.gName, .sl (List.map GPart.c d150_.gParts)] []), (2, .cells [.str (bs []), .sl (List.map GPart.c [])] [(1, .app 106)])], []⟩ _ (by kernel_rfl) .nil ?_
  refine Wc.seq ?_
  refine Wc.region [] [] [1, 2, 3] [1, 2, 3] [] ⟨[(1, (.ptr 1 0, [])), (2, (.ptr 2 0, [])), (3, (.ptr 3 0, []))], [(1, .cells [.str d150_.gName, .sl (List.map GPart.c d150_.gParts)] []), (2, .cells [.str (bs []), .sl (List.map GPart.c [])] [(1, .app 106)]), (3, .cells [.str (bs []), .sl (List.map GPart.c [])] [(1, .app 106)])], []⟩ _ (by kernel_rfl) .nil ?_
  refine Wc.seq ?_
  refine Wc.region [] [] [1, 2, 3] [1, 2, 3] [] ⟨[(1, (.ptr 1 0, [])), (2, (.ptr 2 0, [])), (3, (.ptr 3 0, []))], [(1, .cells [.str d150_.gName, .sl (List.map GPart.c d150_.gParts)] []), (2, .cells [.str (bs []), .sl (List.map GPart.c [])] [(1, .app 106)]), (3, .cells [.str d150_.gName, .sl (List.map GPart.c [])] [(1, .app 106)])], []⟩ _ (by kernel_rfl) .nil ?_
  refine Wc.seq ?_
  obtain ⟨g151_, h123, h⟩ := obind h
  refine Wc.region [{}, {}, { r := some (.v (.slx) [(0, .ex 106 true (List.map GPart.c g151_))]) }, {}, { tk := [9] }] [] [2, 3] [2, 3] [] ⟨[(2, (.ptr 2 0, [])), (3, (.ptr 3 0, []))], [(2, .cells [.str (bs []), .sl (List.map GPart.c [])] [(1, .app 106)]), (3, .cells [.str d150_.gName, .slx] [(1, .ex 106 true (List.map GPart.c g151_))])], []⟩ _ (by kernel_rfl) (.cons (claws_toPartS_d h123) .nil) ?_
  refine Wc.seq ?_
  refine Wc.region [{ md := 1 }, { tk := [11] }] [] [2] [2] [] ⟨[(2, (.ptr 2 0, []))], [(2, .cells [.str d150_.gName, .slx] [(1, .ex 106 true (List.map GPart.c g151_))])], []⟩ _ (by kernel_rfl) .nil ?_
  refine Wc.ret ?_
  obtain rfl := Option.some.inj h
  exact ⟨.inl rfl, by kernel_rfl, by kernel_rfl⟩

def pimpl_RuleTerm_d_J2 (k : Nat) (bk_ : Int → GTerm → Option (Out GTerm GTerm)) (b165_ : Int) (d163_ : GRule) (f166_ : GTerm) (f170_ : GTerm) : Option (Out GTerm GTerm) :=
  if (b165_ == (wr.i64 ((d163_.gParts.length : Int) - 1))) = true then
    bk_ (wr.i64 (b165_ - 1)) f170_
  else
    (pimpl_structure_d k (bs [44]) [f170_, f166_]).bind fun f171_ =>
    bk_ (wr.i64 (b165_ - 1)) f171_
def pimpl_RuleTerm_d_L1 (k : Nat) (d163_ : GRule) : Nat → Int → GTerm → Option (Out GTerm GTerm)
  | 0, _, _ => none
  | m + 1, b165_, f166_ =>
    if (decide (b165_ ≥ 0)) = true then
      (at' d163_.gParts b165_).bind fun a168_ =>
      (pimpl_atom_d k a168_.gName).bind fun f169_ =>
      (at' d163_.gParts b165_).bind fun a172_ =>
      if a172_.gWord = true then
        (pimpl_atom_d k (bs [91, 93])).bind fun f173_ =>
        (pimpl_structure_d k (bs [46]) [f169_, f173_]).bind fun f174_ =>
        pimpl_RuleTerm_d_J2 k (pimpl_RuleTerm_d_L1 k d163_ m) b165_ d163_ f166_ f174_
      else
        pimpl_RuleTerm_d_J2 k (pimpl_RuleTerm_d_L1 k d163_ m) b165_ d163_ f166_ f169_
    else
      some (.done f166_)
/-- impl.RuleTerm -/
def pimpl_RuleTerm_d (k : Nat) (d163_ : GRule) : Option GTerm :=
  (pimpl_atom_d k (bs [91, 93])).bind fun f164_ =>
  (pimpl_RuleTerm_d_L1 k d163_ k (wr.i64 ((d163_.gParts.length : Int) - 1)) f164_).bind fun out1 => match out1 with
  | .ret r => some r
  | .done f167_ =>
    (pimpl_atom_d k d163_.gName).bind fun f175_ =>
    (pimpl_structure_d k (bs [45, 45, 62]) [f175_, f167_]).bind fun f176_ =>
    some f176_
theorem cimpl_RuleTerm_d {k : Nat} {d163_ : GRule} {r : GTerm} (h : pimpl_RuleTerm_d k d163_ = some r) : FnO Try.prog 17 [.v (.agg [.str d163_.gName, .sl (List.map GPart.c d163_.gParts)]) []] (.v (.agg [.int .i64 r.gKind, .str r.gName, .int .i64 r.gNum, .slx]) [(3, .ex 40 true (List.map GTerm.c r.gKids))]) [] := by
  refine FnO.of Try.func17 (rfl : Try.f17.body = some _) (Nat.le_of_ble_eq_true (by kernel_rfl)) (Nat.le_of_ble_eq_true (by kernel_rfl)) ?_
  intro w0 X0 Fin pv0 pb
  unfold pimpl_RuleTerm_d at h
  refine Wc.seq ?_
  refine Wc.region [] [] [1, 2] [1, 2] [] ⟨[(1, (.ptr 1 0, [])), (2, (.ptr 2 0, []))], [(1, .cells [.str d163_.gName, .sl (List.map GPart.c d163_.gParts)] []), (2, .cells [.int .i64 0, .str (bs []), .int .i64 0, .sl (List.map GTerm.c [])] [(3, .app 40)])], []⟩ _ (by kernel_rfl) .nil ?_
  refine Wc.seq ?_
  obtain ⟨f164_, h136, h⟩ := obind h
  refine Wc.region [{ r := some (.v (.agg [.int .i64 f164_.gKind, .str f164_.gName, .int .i64 f164_.gNum, .slx]) [(3, .ex 40 true (List.map GTerm.c f164_.gKids))]) }, {}, { tk := [6] }] [] [1, 2, 3] [1, 2, 3] [] ⟨[(1, (.ptr 1 0, [])), (2, (.ptr 2 0, [])), (3, (.ptr 3 0, []))], [(1, .cells [.str d163_.gName, .sl (List.map GPart.c d163_.gParts)] []), (2, .cells [.int .i64 0, .str (bs []), .int .i64 0, .sl (List.map GTerm.c [])] [(3, .app 40)]), (3, .cells [.int .i64 f164_.gKind, .str f164_.gName, .int .i64 f164_.gNum, .slx] [(3, .ex 40 true (List.map GTerm.c f164_.gKids))])], []⟩ _ (by kernel_rfl) (.cons (cimpl_atom_d h136) .nil) ?_
  refine Wc.seq ?_
  refine Wc.seq ?_
  refine Wc.region [{}, {}, { v := some (.int .i64 (d163_.gParts.length : Int)) }] [] [1, 2, 3, 4] [1, 2, 3] [] ⟨[(1, (.ptr 1 0, [])), (2, (.ptr 2 0, [])), (3, (.ptr 3 0, [])), (4, (.v (.int .i64 (wr.i64 ((d163_.gParts.length : Int) - 1))), []))], [(1, .cells [.str d163_.gName, .sl (List.map GPart.c d163_.gParts)] []), (2, .cells [.int .i64 0, .str (bs []), .int .i64 0, .sl (List.map GTerm.c [])] [(3, .app 40)]), (3, .cells [.int .i64 f164_.gKind, .str f164_.gName, .int .i64 f164_.gNum, .slx] [(3, .ex 40 true (List.map GTerm.c f164_.gKids))])], []⟩ _ (by kernel_rfl) (.cons (len_obl GPart.c d163_.gParts) .nil) ?_
  obtain ⟨out1, h137, h⟩ := obind h
  refine Wc.lastJ (fun st => ∃ (f167_ : GTerm), out1 = .done f167_ ∧ st = ⟨[(1, (.ptr 1 0, [])), (2, (.ptr 2 0, [])), (3, (.ptr 3 0, []))], [(1, .cells [.str d163_.gName, .sl (List.map GPart.c d163_.gParts)] []), (2, .cells [.int .i64 0, .str (bs []), .int .i64 0, .slx] [(3, .ex 40 true (List.map GTerm.c []))]), (3, .cells [.int .i64 f167_.gKind, .str f167_.gName, .int .i64 f167_.gNum, .slx] [(3, .ex 40 true (List.map GTerm.c f167_.gKids))])], []⟩) ?_ ?_
  · refine Wc.block ?_
    refine Wc.fix (st' := ⟨[(1, (.ptr 1 0, [])), (2, (.ptr 2 0, [])), (3, (.ptr 3 0, [])), (4, (.v (.int .i64 (wr.i64 ((d163_.gParts.length : Int) - 1))), []))], [(1, .cells [.str d163_.gName, .sl (List.map GPart.c d163_.gParts)] []), (2, .cells [.int .i64 0, .str (bs []), .int .i64 0, .slx] [(3, .ex 40 true (List.map GTerm.c []))]), (3, .cells [.int .i64 f164_.gKind, .str f164_.gName, .int .i64 f164_.gNum, .slx] [(3, .ex 40 true (List.map GTerm.c f164_.gKids))])], []⟩) [.ow (.b 2 3) true] [1, 2, 3, 4] [1, 2, 3] [] (by kernel_rfl) ?_
    refine Wc.loop (fun m st => ∃ (b165_ : Int) (f166_ : GTerm), st = ⟨[(1, (.ptr 1 0, [])), (2, (.ptr 2 0, [])), (3, (.ptr 3 0, [])), (4, (.v (.int .i64 b165_), []))], [(1, .cells [.str d163_.gName, .sl (List.map GPart.c d163_.gParts)] []), (2, .cells [.int .i64 0, .str (bs []), .int .i64 0, .slx] [(3, .ex 40 true (List.map GTerm.c []))]), (3, .cells [.int .i64 f166_.gKind, .str f166_.gName, .int .i64 f166_.gNum, .slx] [(3, .ex 40 true (List.map GTerm.c f166_.gKids))])], []⟩ ∧ pimpl_RuleTerm_d_L1 k d163_ m b165_ f166_ = some out1) ?_ k ⟨_, _, rfl, h137⟩
    rintro m st ⟨b165_, f166_, rfl, h137⟩
    cases m with
    | zero => exact (onone h137).elim
    | succ m =>
      refine Wc.seq ?_
      refine Wc.seq ?_
      refine Wc.region [] [] [1, 2, 3, 4, 12] [1, 2, 3] [] ⟨[(1, (.ptr 1 0, [])), (2, (.ptr 2 0, [])), (3, (.ptr 3 0, [])), (4, (.v (.int .i64 b165_), [])), (12, (.v (.bool (decide (b165_ ≥ 0))), []))], [(1, .cells [.str d163_.gName, .sl (List.map GPart.c d163_.gParts)] []), (2, .cells [.int .i64 0, .str (bs []), .int .i64 0, .slx] [(3, .ex 40 true (List.map GTerm.c []))]), (3, .cells [.int .i64 f166_.gKind, .str f166_.gName, .int .i64 f166_.gNum, .slx] [(3, .ex 40 true (List.map GTerm.c f166_.gKids))])], []⟩ _ (by kernel_rfl) .nil ?_
      rcases oif h137 with ⟨h138, h137⟩ | ⟨h138, h137⟩
      · refine Wc.condT h138 (by kernel_rfl) ?_
        refine Wc.fix (st' := ⟨[(1, (.ptr 1 0, [])), (2, (.ptr 2 0, [])), (3, (.ptr 3 0, [])), (4, (.v (.int .i64 b165_), []))], [(1, .cells [.str d163_.gName, .sl (List.map GPart.c d163_.gParts)] []), (2, .cells [.int .i64 0, .str (bs []), .int .i64 0, .slx] [(3, .ex 40 true (List.map GTerm.c []))]), (3, .cells [.int .i64 f166_.gKind, .str f166_.gName, .int .i64 f166_.gNum, .slx] [(3, .ex 40 true (List.map GTerm.c f166_.gKids))])], []⟩) [] [1, 2, 3, 4] [1, 2, 3] [] (by kernel_rfl) ?_
        refine Wc.skip ?_
        refine Wc.seq ?_
        refine Wc.block ?_
        refine Wc.seq ?_
        obtain ⟨a168_, h139, h137⟩ := obind h137
        obtain ⟨f169_, h140, h137⟩ := obind h137
        refine Wc.region [{}, {}, {}, { v := some (.vptr [.bool a168_.gWord, .str a168_.gName]) }, {}, {}, { r := some (.v (.agg [.int .i64 f169_.gKind, .str f169_.gName, .int .i64 f169_.gNum, .slx]) [(3, .ex 40 true (List.map GTerm.c f169_.gKids))]) }, {}, { tk := [21] }] [] [1, 2, 3, 4, 5] [1, 2, 3, 5] [] ⟨[(1, (.ptr 1 0, [])), (2, (.ptr 2 0, [])), (3, (.ptr 3 0, [])), (4, (.v (.int .i64 b165_), [])), (5, (.ptr 5 0, []))], [(1, .cells [.str d163_.gName, .sl (List.map GPart.c d163_.gParts)] []), (2, .cells [.int .i64 0, .str (bs []), .int .i64 0, .slx] [(3, .ex 40 true (List.map GTerm.c []))]), (3, .cells [.int .i64 f166_.gKind, .str f166_.gName, .int .i64 f166_.gNum, .slx] [(3, .ex 40 true (List.map GTerm.c f166_.gKids))]), (5, .cells [.int .i64 f169_.gKind, .str f169_.gName, .int .i64 f169_.gNum, .slx] [(3, .ex 40 true (List.map GTerm.c f169_.gKids))])], []⟩ _ (by kernel_rfl) (.cons (at_obl (c := GPart.c) (GPart.c_eq a168_) GPart.c_len h139) (.cons (len_ok 1 [.str a168_.gName]) (.cons (cimpl_atom_d h140) .nil))) ?_
        refine Wc.seqJ (fun st => ∃ (f170_ : GTerm), st = ⟨[(1, (.ptr 1 0, [])), (2, (.ptr 2 0, [])), (3, (.ptr 3 0, [])), (4, (.v (.int .i64 b165_), [])), (5, (.ptr 5 0, []))], [(1, .cells [.str d163_.gName, .sl (List.map GPart.c d163_.gParts)] []), (2, .cells [.int .i64 0, .str (bs []), .int .i64 0, .slx] [(3, .ex 40 true (List.map GTerm.c []))]), (3, .cells [.int .i64 f166_.gKind, .str f166_.gName, .int .i64 f166_.gNum, .slx] [(3, .ex 40 true (List.map GTerm.c f166_.gKids))]), (5, .cells [.int .i64 f170_.gKind, .str f170_.gName, .int .i64 f170_.gNum, .slx] [(3, .ex 40 true (List.map GTerm.c f170_.gKids))])], []⟩ ∧ pimpl_RuleTerm_d_J2 k (pimpl_RuleTerm_d_L1 k d163_ m) b165_ d163_ f166_ f170_ = some out1) ?_ ?_
        · refine Wc.seq ?_
          obtain ⟨a172_, h143, h137⟩ := obind h137
          refine Wc.region [{}, {}, {}, { v := some (.vptr [.bool a172_.gWord, .str a172_.gName]) }] [] [1, 2, 3, 4, 5, 27] [1, 2, 3, 5] [] ⟨[(1, (.ptr 1 0, [])), (2, (.ptr 2 0, [])), (3, (.ptr 3 0, [])), (4, (.v (.int .i64 b165_), [])), (5, (.ptr 5 0, [])), (27, (.v (.bool a172_.gWord), []))], [(1, .cells [.str d163_.gName, .sl (List.map GPart.c d163_.gParts)] []), (2, .cells [.int .i64 0, .str (bs []), .int .i64 0, .slx] [(3, .ex 40 true (List.map GTerm.c []))]), (3, .cells [.int .i64 f166_.gKind, .str f166_.gName, .int .i64 f166_.gNum, .slx] [(3, .ex 40 true (List.map GTerm.c f166_.gKids))]), (5, .cells [.int .i64 f169_.gKind, .str f169_.gName, .int .i64 f169_.gNum, .slx] [(3, .ex 40 true (List.map GTerm.c f169_.gKids))])], []⟩ _ (by kernel_rfl) (.cons (at_obl (c := GPart.c) (GPart.c_eq a172_) GPart.c_len h143) (.cons (len_ok 1 [.bool a172_.gWord, .str a172_.gName]) .nil)) ?_
          rcases oif h137 with ⟨h144, h137⟩ | ⟨h144, h137⟩
          · refine Wc.condT h144 (by kernel_rfl) ?_
            obtain ⟨f173_, h145, h137⟩ := obind h137
            obtain ⟨f174_, h146, h137⟩ := obind h137
            refine Wc.draw hmix [{ md := 1 }, { r := some (.v (.agg [.int .i64 f173_.gKind, .str f173_.gName, .int .i64 f173_.gNum, .slx]) [(3, .ex 40 true (List.map GTerm.c f173_.gKids))]) }, { c := some (List.map GTerm.c [f169_, f173_]), tk := [28, 29], md := 2 }, { tk := [30], r := some (.v (.agg [.int .i64 f174_.gKind, .str f174_.gName, .int .i64 f174_.gNum, .slx]) [(3, .ex 40 true (List.map GTerm.c f174_.gKids))]) }, { tk := [31] }] [] [1, 2, 3, 4, 5] [1, 2, 3, 5] [] ⟨[(1, (.ptr 1 0, [])), (2, (.ptr 2 0, [])), (3, (.ptr 3 0, [])), (4, (.v (.int .i64 b165_), [])), (5, (.ptr 5 0, []))], [(1, .cells [.str d163_.gName, .sl (List.map GPart.c d163_.gParts)] []), (2, .cells [.int .i64 0, .str (bs []), .int .i64 0, .slx] [(3, .ex 40 true (List.map GTerm.c []))]), (3, .cells [.int .i64 f166_.gKind, .str f166_.gName, .int .i64 f166_.gNum, .slx] [(3, .ex 40 true (List.map GTerm.c f166_.gKids))]), (5, .cells [.int .i64 f174_.gKind, .str f174_.gName, .int .i64 f174_.gNum, .slx] [(3, .ex 40 true (List.map GTerm.c f174_.gKids))])], []⟩ _ (by kernel_rfl) (fun X => by kernel_rfl) (.cons (cimpl_atom_d h145) (.cons (cl_cons (c := GTerm.c) (x := f169_) (GTerm.c_eq f169_) (cl_cons (c := GTerm.c) (x := f173_) (GTerm.c_eq f173_) (cl_nil GTerm.c))) (.cons (cimpl_structure_d h146) .nil))) ?_
            exact ⟨_, rfl, h137⟩
          · refine Wc.condF h144 (by kernel_rfl) ?_
            refine Wc.fix (st' := ⟨[(1, (.ptr 1 0, [])), (2, (.ptr 2 0, [])), (3, (.ptr 3 0, [])), (4, (.v (.int .i64 b165_), [])), (5, (.ptr 5 0, []))], [(1, .cells [.str d163_.gName, .sl (List.map GPart.c d163_.gParts)] []), (2, .cells [.int .i64 0, .str (bs []), .int .i64 0, .slx] [(3, .ex 40 true (List.map GTerm.c []))]), (3, .cells [.int .i64 f166_.gKind, .str f166_.gName, .int .i64 f166_.gNum, .slx] [(3, .ex 40 true (List.map GTerm.c f166_.gKids))]), (5, .cells [.int .i64 f169_.gKind, .str f169_.gName, .int .i64 f169_.gNum, .slx] [(3, .ex 40 true (List.map GTerm.c f169_.gKids))])], []⟩) [] [1, 2, 3, 4, 5] [1, 2, 3, 5] [] (by kernel_rfl) ?_
            refine Wc.skip ?_
            exact ⟨_, rfl, h137⟩
        · rintro st ⟨f170_, rfl, h137⟩
          refine Wc.seq ?_
          refine Wc.region [{}, {}, {}, { v := some (.int .i64 (d163_.gParts.length : Int)) }] [] [1, 2, 3, 4, 5, 37] [1, 2, 3, 5] [] ⟨[(1, (.ptr 1 0, [])), (2, (.ptr 2 0, [])), (3, (.ptr 3 0, [])), (4, (.v (.int .i64 b165_), [])), (5, (.ptr 5 0, [])), (37, (.v (.bool (b165_ == (wr.i64 ((d163_.gParts.length : Int) - 1)))), []))], [(1, .cells [.str d163_.gName, .sl (List.map GPart.c d163_.gParts)] []), (2, .cells [.int .i64 0, .str (bs []), .int .i64 0, .slx] [(3, .ex 40 true (List.map GTerm.c []))]), (3, .cells [.int .i64 f166_.gKind, .str f166_.gName, .int .i64 f166_.gNum, .slx] [(3, .ex 40 true (List.map GTerm.c f166_.gKids))]), (5, .cells [.int .i64 f170_.gKind, .str f170_.gName, .int .i64 f170_.gNum, .slx] [(3, .ex 40 true (List.map GTerm.c f170_.gKids))])], []⟩ _ (by kernel_rfl) (.cons (len_obl GPart.c d163_.gParts) .nil) ?_
          rcases oif h137 with ⟨h141, h137⟩ | ⟨h141, h137⟩
          · refine Wc.condT h141 (by kernel_rfl) ?_
            refine Wc.region [{ md := 1 }, { tk := [38] }] [] [1, 2, 3, 4] [1, 2, 3] [] ⟨[(1, (.ptr 1 0, [])), (2, (.ptr 2 0, [])), (3, (.ptr 3 0, [])), (4, (.v (.int .i64 b165_), []))], [(1, .cells [.str d163_.gName, .sl (List.map GPart.c d163_.gParts)] []), (2, .cells [.int .i64 0, .str (bs []), .int .i64 0, .slx] [(3, .ex 40 true (List.map GTerm.c []))]), (3, .cells [.int .i64 f170_.gKind, .str f170_.gName, .int .i64 f170_.gNum, .slx] [(3, .ex 40 true (List.map GTerm.c f170_.gKids))])], []⟩ _ (by kernel_rfl) .nil ?_
            refine Wc.region [] [] [1, 2, 3, 4] [1, 2, 3] [] ⟨[(1, (.ptr 1 0, [])), (2, (.ptr 2 0, [])), (3, (.ptr 3 0, [])), (4, (.v (.int .i64 (wr.i64 (b165_ - 1))), []))], [(1, .cells [.str d163_.gName, .sl (List.map GPart.c d163_.gParts)] []), (2, .cells [.int .i64 0, .str (bs []), .int .i64 0, .slx] [(3, .ex 40 true (List.map GTerm.c []))]), (3, .cells [.int .i64 f170_.gKind, .str f170_.gName, .int .i64 f170_.gNum, .slx] [(3, .ex 40 true (List.map GTerm.c f170_.gKids))])], []⟩ _ (by kernel_rfl) .nil ?_
            exact ⟨_, Nat.lt_succ_self _, _, _, rfl, h137⟩
          · refine Wc.condF h141 (by kernel_rfl) ?_
            obtain ⟨f171_, h142, h137⟩ := obind h137
            refine Wc.region [{ md := 1 }, { md := 1 }, { c := some (List.map GTerm.c [f170_, f166_]), tk := [39, 40], md := 2 }, { tk := [41], r := some (.v (.agg [.int .i64 f171_.gKind, .str f171_.gName, .int .i64 f171_.gNum, .slx]) [(3, .ex 40 true (List.map GTerm.c f171_.gKids))]) }, { tk := [42] }] [] [1, 2, 3, 4] [1, 2, 3] [] ⟨[(1, (.ptr 1 0, [])), (2, (.ptr 2 0, [])), (3, (.ptr 3 0, [])), (4, (.v (.int .i64 b165_), []))], [(1, .cells [.str d163_.gName, .sl (List.map GPart.c d163_.gParts)] []), (2, .cells [.int .i64 0, .str (bs []), .int .i64 0, .slx] [(3, .ex 40 true (List.map GTerm.c []))]), (3, .cells [.int .i64 f171_.gKind, .str f171_.gName, .int .i64 f171_.gNum, .slx] [(3, .ex 40 true (List.map GTerm.c f171_.gKids))])], []⟩ _ (by kernel_rfl) (.cons (cl_cons (c := GTerm.c) (x := f170_) (GTerm.c_eq f170_) (cl_cons (c := GTerm.c) (x := f166_) (GTerm.c_eq f166_) (cl_nil GTerm.c))) (.cons (cimpl_structure_d h142) .nil)) ?_
            refine Wc.region [] [] [1, 2, 3, 4] [1, 2, 3] [] ⟨[(1, (.ptr 1 0, [])), (2, (.ptr 2 0, [])), (3, (.ptr 3 0, [])), (4, (.v (.int .i64 (wr.i64 (b165_ - 1))), []))], [(1, .cells [.str d163_.gName, .sl (List.map GPart.c d163_.gParts)] []), (2, .cells [.int .i64 0, .str (bs []), .int .i64 0, .slx] [(3, .ex 40 true (List.map GTerm.c []))]), (3, .cells [.int .i64 f171_.gKind, .str f171_.gName, .int .i64 f171_.gNum, .slx] [(3, .ex 40 true (List.map GTerm.c f171_.gKids))])], []⟩ _ (by kernel_rfl) .nil ?_
            exact ⟨_, Nat.lt_succ_self _, _, _, rfl, h137⟩
      · refine Wc.condF h138 (by kernel_rfl) ?_
        refine Wc.fix (st' := ⟨[(1, (.ptr 1 0, [])), (2, (.ptr 2 0, [])), (3, (.ptr 3 0, []))], [(1, .cells [.str d163_.gName, .sl (List.map GPart.c d163_.gParts)] []), (2, .cells [.int .i64 0, .str (bs []), .int .i64 0, .slx] [(3, .ex 40 true (List.map GTerm.c []))]), (3, .cells [.int .i64 f166_.gKind, .str f166_.gName, .int .i64 f166_.gNum, .slx] [(3, .ex 40 true (List.map GTerm.c f166_.gKids))])], []⟩) [] [1, 2, 3] [1, 2, 3] [] (by kernel_rfl) ?_
        refine Wc.exit ?_
        obtain rfl := Option.some.inj h137
        exact ⟨_, rfl, rfl⟩
  · rintro st ⟨f167_, rfl, rfl⟩
    refine Wc.seq ?_
    obtain ⟨f175_, h147, h⟩ := obind h
    obtain ⟨f176_, h148, h⟩ := obind h
    refine Wc.draw hmix [{}, {}, { r := some (.v (.agg [.int .i64 f175_.gKind, .str f175_.gName, .int .i64 f175_.gNum, .slx]) [(3, .ex 40 true (List.map GTerm.c f175_.gKids))]) }, { md := 1 }, { c := some (List.map GTerm.c [f175_, f167_]), tk := [45, 46], md := 2 }, { tk := [47], r := some (.v (.agg [.int .i64 f176_.gKind, .str f176_.gName, .int .i64 f176_.gNum, .slx]) [(3, .ex 40 true (List.map GTerm.c f176_.gKids))]) }, { tk := [48] }] [] [2] [2] [] ⟨[(2, (.ptr 2 0, []))], [(2, .cells [.int .i64 f176_.gKind, .str f176_.gName, .int .i64 f176_.gNum, .slx] [(3, .ex 40 true (List.map GTerm.c f176_.gKids))])], []⟩ _ (by kernel_rfl) (fun X => by kernel_rfl) (.cons (cimpl_atom_d h147) (.cons (cl_cons (c := GTerm.c) (x := f175_) (GTerm.c_eq f175_) (cl_cons (c := GTerm.c) (x := f167_) (GTerm.c_eq f167_) (cl_nil GTerm.c))) (.cons (cimpl_structure_d h148) .nil))) ?_
    refine Wc.ret ?_
    obtain rfl := Option.some.inj h
    exact ⟨.inl rfl, by kernel_rfl, by kernel_rfl⟩

/-- laws.FnExactRuleTerm -/
def plaws_FnExactRuleTerm (k : Nat) (d144_ : GRule) : Option Bool :=
  (plaws_szRule k d144_ 1048576).bind fun b145_ =>
  if (decide (b145_ < 0)) = true then
    some true
  else
    (plaws_toRule k d144_).bind fun d146_ =>
    (pspec_RuleTerm k d146_).bind fun f147_ =>
    (plaws_toRule_d k d144_).bind fun d148_ =>
    (pimpl_RuleTerm_d k d148_).bind fun f149_ =>
    (plaws_eqTerm k f149_ f147_).bind fun j150_ =>
    if (!j150_) = true then
      some false
    else
      (plaws_toRule k d144_).bind fun d151_ =>
      (plaws_eqRule k d148_ d151_).bind fun j152_ =>
      if (!j152_) = true then
        some false
      else
        (plaws_markRule k d148_ 1).bind fun n153_ =>
        if (decide (n153_.2 < 0)) = true then
          some false
        else
          (plaws_eqTerm k f149_ f147_).bind fun j154_ =>
          if (!j154_) = true then
            some false
          else
            (plaws_markTerm k f149_ 1).bind fun o155_ =>
            (plaws_heldTerm k (GTerm.mk f149_.gKind f149_.gName f149_.gNum o155_.1.gKids) 1).bind fun b156_ =>
            if (decide (b156_ < 0)) = true then
              some false
            else
              if (b156_ != o155_.2) = true then
                some false
              else
                (plaws_toRule k d144_).bind fun d157_ =>
                (pimpl_RuleTerm k d157_).bind fun f158_ =>
                (plaws_eqTerm k f158_ f147_).bind fun j159_ =>
                if (!j159_) = true then
                  some false
                else
                  (plaws_heldTerm k (GTerm.mk f149_.gKind f149_.gName f149_.gNum o155_.1.gKids) 1).bind fun b160_ =>
                  if (decide (b160_ < 0)) = true then
                    some false
                  else
                    if (b160_ != o155_.2) = true then
                      some false
                    else
                      some true
theorem claws_FnExactRuleTerm {k : Nat} {d144_ : GRule} {r : Bool} (h : plaws_FnExactRuleTerm k d144_ = some r) : FnO Try.prog 4 [.v (.agg [.str d144_.gName, .sl (List.map GPart.c d144_.gParts)]) []] (.v (.bool r) []) [] := by
  refine FnO.of Try.func4 (rfl : Try.f4.body = some _) (Nat.le_of_ble_eq_true (by kernel_rfl)) (Nat.le_of_ble_eq_true (by kernel_rfl)) ?_
  intro w0 X0 Fin pv0 pb
  unfold plaws_FnExactRuleTerm at h
  refine Wc.seq ?_
  refine Wc.region [] [] [1] [1] [] ⟨[(1, (.ptr 1 0, []))], [(1, .cells [.str d144_.gName, .sl (List.map GPart.c d144_.gParts)] [])], []⟩ _ (by kernel_rfl) .nil ?_
  refine Wc.seq ?_
  refine Wc.region [] [] [1, 3] [1] [] ⟨[(1, (.ptr 1 0, [])), (3, (.v (.int .i64 1048576), []))], [(1, .cells [.str d144_.gName, .sl (List.map GPart.c d144_.gParts)] [])], []⟩ _ (by kernel_rfl) .nil ?_
  refine Wc.seq ?_
  obtain ⟨b145_, h118, h⟩ := obind h
  refine Wc.region [{}, {}, { r := some (.v (.int .i64 b145_) []) }] [] [1, 3] [1] [] ⟨[(1, (.ptr 1 0, [])), (3, (.v (.int .i64 b145_), []))], [(1, .cells [.str d144_.gName, .sl (List.map GPart.c d144_.gParts)] [])], []⟩ _ (by kernel_rfl) (.cons (claws_szRule h118) .nil) ?_
  refine Wc.seq ?_
  refine Wc.seq ?_
  refine Wc.region [] [] [1, 15] [1] [] ⟨[(1, (.ptr 1 0, [])), (15, (.v (.bool (decide (b145_ < 0))), []))], [(1, .cells [.str d144_.gName, .sl (List.map GPart.c d144_.gParts)] [])], []⟩ _ (by kernel_rfl) .nil ?_
  rcases oif h with ⟨h119, h⟩ | ⟨h119, h⟩
  · refine Wc.condT h119 (by kernel_rfl) ?_
    refine Wc.seq ?_
    refine Wc.region [] [] [2] [] [] ⟨[(2, (.v (.bool true), []))], [], []⟩ _ (by kernel_rfl) .nil ?_
    refine Wc.ret ?_
    obtain rfl := Option.some.inj h
    exact ⟨.inl rfl, by kernel_rfl, by kernel_rfl⟩
  · refine Wc.condF h119 (by kernel_rfl) ?_
    refine Wc.fix (st' := ⟨[(1, (.ptr 1 0, []))], [(1, .cells [.str d144_.gName, .sl (List.map GPart.c d144_.gParts)] [])], []⟩) [] [1] [1] [] (by kernel_rfl) ?_
    refine Wc.skip ?_
    refine Wc.seq ?_
    obtain ⟨d146_, h120, h⟩ := obind h
    obtain ⟨f147_, h121, h⟩ := obind h
    refine Wc.region [{}, { r := some (.v (.agg [.str d146_.gName, .sl (List.map GPart.c d146_.gParts)]) []) }, { r := some (.v (.agg [.int .i64 f147_.gKind, .str f147_.gName, .int .i64 f147_.gNum, .sl (List.map GTerm.c f147_.gKids)]) [(3, .app 40)]) }, {}, { tk := [18] }] [] [1, 4] [1, 4] [] ⟨[(1, (.ptr 1 0, [])), (4, (.ptr 4 0, []))], [(1, .cells [.str d144_.gName, .sl (List.map GPart.c d144_.gParts)] []), (4, .cells [.int .i64 f147_.gKind, .str f147_.gName, .int .i64 f147_.gNum, .sl (List.map GTerm.c f147_.gKids)] [(3, .app 40)])], []⟩ _ (by kernel_rfl) (.cons (claws_toRule h120) (.cons (cspec_RuleTerm h121) .nil)) ?_
    refine Wc.seq ?_
    obtain ⟨d148_, h122, h⟩ := obind h
    refine Wc.region [{}, { r := some (.v (.agg [.str d148_.gName, .slx]) [(1, .ex 106 true (List.map GPart.c d148_.gParts))]) }, {}, { tk := [20] }] [] [1, 4, 5] [1, 4, 5] [] ⟨[(1, (.ptr 1 0, [])), (4, (.ptr 4 0, [])), (5, (.ptr 5 0, []))], [(1, .cells [.str d144_.gName, .sl (List.map GPart.c d144_.gParts)] []), (4, .cells [.int .i64 f147_.gKind, .str f147_.gName, .int .i64 f147_.gNum, .sl (List.map GTerm.c f147_.gKids)] [(3, .app 40)]), (5, .cells [.str d148_.gName, .slx] [(1, .ex 106 true (List.map GPart.c d148_.gParts))])], []⟩ _ (by kernel_rfl) (.cons (claws_toRule_d h122) .nil) ?_
    refine Wc.seq ?_
    obtain ⟨f149_, h123, h⟩ := obind h
    refine Wc.region [{}, { r := some (.v (.agg [.int .i64 f149_.gKind, .str f149_.gName, .int .i64 f149_.gNum, .slx]) [(3, .ex 40 true (List.map GTerm.c f149_.gKids))]) }, {}, { tk := [22] }] [] [1, 4, 5, 6] [1, 4, 5, 6] [] ⟨[(1, (.ptr 1 0, [])), (4, (.ptr 4 0, [])), (5, (.ptr 5 0, [])), (6, (.ptr 6 0, []))], [(1, .cells [.str d144_.gName, .sl (List.map GPart.c d144_.gParts)] []), (4, .cells [.int .i64 f147_.gKind, .str f147_.gName, .int .i64 f147_.gNum, .sl (List.map GTerm.c f147_.gKids)] [(3, .app 40)]), (5, .cells [.str d148_.gName, .slx] [(1, .ex 106 true (List.map GPart.c d148_.gParts))]), (6, .cells [.int .i64 f149_.gKind, .str f149_.gName, .int .i64 f149_.gNum, .slx] [(3, .ex 40 true (List.map GTerm.c f149_.gKids))])], []⟩ _ (by kernel_rfl) (.cons (cimpl_RuleTerm_d h123) .nil) ?_
    refine Wc.seq ?_
    refine Wc.seq ?_
    obtain ⟨j150_, h124, h⟩ := obind h
    refine Wc.region [{}, {}, { r := some (.v (.bool j150_) []) }] [] [1, 4, 5, 6, 26] [1, 4, 5, 6] [] ⟨[(1, (.ptr 1 0, [])), (4, (.ptr 4 0, [])), (5, (.ptr 5 0, [])), (6, (.ptr 6 0, [])), (26, (.v (.bool (!j150_)), []))], [(1, .cells [.str d144_.gName, .sl (List.map GPart.c d144_.gParts)] []), (4, .cells [.int .i64 f147_.gKind, .str f147_.gName, .int .i64 f147_.gNum, .sl (List.map GTerm.c f147_.gKids)] [(3, .app 40)]), (5, .cells [.str d148_.gName, .slx] [(1, .ex 106 true (List.map GPart.c d148_.gParts))]), (6, .cells [.int .i64 f149_.gKind, .str f149_.gName, .int .i64 f149_.gNum, .slx] [(3, .ex 40 true (List.map GTerm.c f149_.gKids))])], []⟩ _ (by kernel_rfl) (.cons (claws_eqTerm h124) .nil) ?_
    rcases oif h with ⟨h125, h⟩ | ⟨h125, h⟩
    · refine Wc.condT h125 (by kernel_rfl) ?_
      refine Wc.seq ?_
      refine Wc.region [] [] [2] [] [] ⟨[(2, (.v (.bool false), []))], [], []⟩ _ (by kernel_rfl) .nil ?_
      refine Wc.ret ?_
      obtain rfl := Option.some.inj h
      exact ⟨.inl rfl, by kernel_rfl, by kernel_rfl⟩
    · refine Wc.condF h125 (by kernel_rfl) ?_
      refine Wc.fix (st' := ⟨[(1, (.ptr 1 0, [])), (4, (.ptr 4 0, [])), (5, (.ptr 5 0, [])), (6, (.ptr 6 0, []))], [(1, .cells [.str d144_.gName, .sl (List.map GPart.c d144_.gParts)] []), (4, .cells [.int .i64 f147_.gKind, .str f147_.gName, .int .i64 f147_.gNum, .sl (List.map GTerm.c f147_.gKids)] [(3, .app 40)]), (5, .cells [.str d148_.gName, .slx] [(1, .ex 106 true (List.map GPart.c d148_.gParts))]), (6, .cells [.int .i64 f149_.gKind, .str f149_.gName, .int .i64 f149_.gNum, .slx] [(3, .ex 40 true (List.map GTerm.c f149_.gKids))])], []⟩) [] [1, 4, 5, 6] [1, 4, 5, 6] [] (by kernel_rfl) ?_
      refine Wc.skip ?_
      refine Wc.seq ?_
      refine Wc.seq ?_
      obtain ⟨d151_, h126, h⟩ := obind h
      obtain ⟨j152_, h127, h⟩ := obind h
      refine Wc.draw hmix [{}, {}, { r := some (.v (.agg [.str d151_.gName, .sl (List.map GPart.c d151_.gParts)]) []) }, { r := some (.v (.bool j152_) []) }] [] [1, 4, 5, 6, 31] [1, 4, 5, 6] [] ⟨[(1, (.ptr 1 0, [])), (4, (.ptr 4 0, [])), (5, (.ptr 5 0, [])), (6, (.ptr 6 0, [])), (31, (.v (.bool (!j152_)), []))], [(1, .cells [.str d144_.gName, .sl (List.map GPart.c d144_.gParts)] []), (4, .cells [.int .i64 f147_.gKind, .str f147_.gName, .int .i64 f147_.gNum, .sl (List.map GTerm.c f147_.gKids)] [(3, .app 40)]), (5, .cells [.str d148_.gName, .slx] [(1, .ex 106 true (List.map GPart.c d148_.gParts))]), (6, .cells [.int .i64 f149_.gKind, .str f149_.gName, .int .i64 f149_.gNum, .slx] [(3, .ex 40 true (List.map GTerm.c f149_.gKids))])], []⟩ _ (by kernel_rfl) (fun X => by kernel_rfl) (.cons (claws_toRule h126) (.cons (claws_eqRule h127) .nil)) ?_
      rcases oif h with ⟨h128, h⟩ | ⟨h128, h⟩
      · refine Wc.condT h128 (by kernel_rfl) ?_
        refine Wc.seq ?_
        refine Wc.region [] [] [2] [] [] ⟨[(2, (.v (.bool false), []))], [], []⟩ _ (by kernel_rfl) .nil ?_
        refine Wc.ret ?_
        obtain rfl := Option.some.inj h
        exact ⟨.inl rfl, by kernel_rfl, by kernel_rfl⟩
      · refine Wc.condF h128 (by kernel_rfl) ?_
        refine Wc.fix (st' := ⟨[(1, (.ptr 1 0, [])), (4, (.ptr 4 0, [])), (5, (.ptr 5 0, [])), (6, (.ptr 6 0, []))], [(1, .cells [.str d144_.gName, .sl (List.map GPart.c d144_.gParts)] []), (4, .cells [.int .i64 f147_.gKind, .str f147_.gName, .int .i64 f147_.gNum, .sl (List.map GTerm.c f147_.gKids)] [(3, .app 40)]), (5, .cells [.str d148_.gName, .slx] [(1, .ex 106 true (List.map GPart.c d148_.gParts))]), (6, .cells [.int .i64 f149_.gKind, .str f149_.gName, .int .i64 f149_.gNum, .slx] [(3, .ex 40 true (List.map GTerm.c f149_.gKids))])], []⟩) [] [1, 4, 5, 6] [1, 4, 5, 6] [] (by kernel_rfl) ?_
        refine Wc.skip ?_
        refine Wc.seq ?_
        refine Wc.region [] [] [1, 4, 5, 6, 7] [1, 4, 5, 6] [] ⟨[(1, (.ptr 1 0, [])), (4, (.ptr 4 0, [])), (5, (.ptr 5 0, [])), (6, (.ptr 6 0, [])), (7, (.v (.int .i64 1), []))], [(1, .cells [.str d144_.gName, .sl (List.map GPart.c d144_.gParts)] []), (4, .cells [.int .i64 f147_.gKind, .str f147_.gName, .int .i64 f147_.gNum, .sl (List.map GTerm.c f147_.gKids)] [(3, .app 40)]), (5, .cells [.str d148_.gName, .slx] [(1, .ex 106 true (List.map GPart.c d148_.gParts))]), (6, .cells [.int .i64 f149_.gKind, .str f149_.gName, .int .i64 f149_.gNum, .slx] [(3, .ex 40 true (List.map GTerm.c f149_.gKids))])], []⟩ _ (by kernel_rfl) .nil ?_
        refine Wc.seq ?_
        obtain ⟨n153_, h129, h⟩ := obind h
        refine Wc.region [{}, {}, { io := [0], r := some (.v (.int .i64 n153_.2) []), outs := [(0, .v .undef [(1, .ex 1000000007 true (List.map GPart.c n153_.1.gParts))])] }] [] [1, 4, 6, 7] [1, 4, 6] [] ⟨[(1, (.ptr 1 0, [])), (4, (.ptr 4 0, [])), (6, (.ptr 6 0, [])), (7, (.v (.int .i64 n153_.2), []))], [(1, .cells [.str d144_.gName, .sl (List.map GPart.c d144_.gParts)] []), (4, .cells [.int .i64 f147_.gKind, .str f147_.gName, .int .i64 f147_.gNum, .sl (List.map GTerm.c f147_.gKids)] [(3, .app 40)]), (6, .cells [.int .i64 f149_.gKind, .str f149_.gName, .int .i64 f149_.gNum, .slx] [(3, .ex 40 true (List.map GTerm.c f149_.gKids))])], []⟩ _ (by kernel_rfl) (.cons (FnO.any (args := [.io (.agg [.str d148_.gName, .slx]) [(1, .ex 106 true (List.map GPart.c d148_.gParts))], .v (.int .i64 1) []]) (claws_markRule h129)) .nil) ?_
        refine Wc.seq ?_
        refine Wc.seq ?_
        rcases oif h with ⟨h130, h⟩ | ⟨h130, h⟩
        · refine Wc.region [{}, {}, { re := some (.bool true) }] [] [1, 4, 6, 42] [1, 4, 6] [] ⟨[(1, (.ptr 1 0, [])), (4, (.ptr 4 0, [])), (6, (.ptr 6 0, [])), (42, (.v (.bool true), []))], [(1, .cells [.str d144_.gName, .sl (List.map GPart.c d144_.gParts)] []), (4, .cells [.int .i64 f147_.gKind, .str f147_.gName, .int .i64 f147_.gNum, .sl (List.map GTerm.c f147_.gKids)] [(3, .app 40)]), (6, .cells [.int .i64 f149_.gKind, .str f149_.gName, .int .i64 f149_.gNum, .slx] [(3, .ex 40 true (List.map GTerm.c f149_.gKids))])], []⟩ _ (by kernel_rfl) (.cons (congrArg AV.bool h130) .nil) ?_
          refine Wc.condT rfl (by kernel_rfl) ?_
          refine Wc.seq ?_
          refine Wc.region [] [] [2] [] [] ⟨[(2, (.v (.bool false), []))], [], []⟩ _ (by kernel_rfl) .nil ?_
          refine Wc.ret ?_
          obtain rfl := Option.some.inj h
          exact ⟨.inl rfl, by kernel_rfl, by kernel_rfl⟩
        · obtain ⟨j154_, h131, h⟩ := obind h
          refine Wc.region [{}, {}, { re := some (.bool false) }, {}, {}, { r := some (.v (.bool j154_) []) }] [] [1, 4, 6, 42] [1, 4, 6] [] ⟨[(1, (.ptr 1 0, [])), (4, (.ptr 4 0, [])), (6, (.ptr 6 0, [])), (42, (.v (.bool (!j154_)), []))], [(1, .cells [.str d144_.gName, .sl (List.map GPart.c d144_.gParts)] []), (4, .cells [.int .i64 f147_.gKind, .str f147_.gName, .int .i64 f147_.gNum, .sl (List.map GTerm.c f147_.gKids)] [(3, .app 40)]), (6, .cells [.int .i64 f149_.gKind, .str f149_.gName, .int .i64 f149_.gNum, .slx] [(3, .ex 40 true (List.map GTerm.c f149_.gKids))])], []⟩ _ (by kernel_rfl) (.cons (congrArg AV.bool h130) (.cons (claws_eqTerm h131) .nil)) ?_
          rcases oif h with ⟨h132, h⟩ | ⟨h132, h⟩
          · refine Wc.condT h132 (by kernel_rfl) ?_
            refine Wc.seq ?_
            refine Wc.region [] [] [2] [] [] ⟨[(2, (.v (.bool false), []))], [], []⟩ _ (by kernel_rfl) .nil ?_
            refine Wc.ret ?_
            obtain rfl := Option.some.inj h
            exact ⟨.inl rfl, by kernel_rfl, by kernel_rfl⟩
          · refine Wc.condF h132 (by kernel_rfl) ?_
            refine Wc.fix (st' := ⟨[(1, (.ptr 1 0, [])), (4, (.ptr 4 0, [])), (6, (.ptr 6 0, []))], [(1, .cells [.str d144_.gName, .sl (List.map GPart.c d144_.gParts)] []), (4, .cells [.int .i64 f147_.gKind, .str f147_.gName, .int .i64 f147_.gNum, .sl (List.map GTerm.c f147_.gKids)] [(3, .app 40)]), (6, .cells [.int .i64 f149_.gKind, .str f149_.gName, .int .i64 f149_.gNum, .slx] [(3, .ex 40 true (List.map GTerm.c f149_.gKids))])], []⟩) [] [1, 4, 6] [1, 4, 6] [] (by kernel_rfl) ?_
            refine Wc.skip ?_
            refine Wc.seq ?_
            refine Wc.region [] [] [1, 4, 6, 8] [1, 4, 6] [] ⟨[(1, (.ptr 1 0, [])), (4, (.ptr 4 0, [])), (6, (.ptr 6 0, [])), (8, (.v (.int .i64 1), []))], [(1, .cells [.str d144_.gName, .sl (List.map GPart.c d144_.gParts)] []), (4, .cells [.int .i64 f147_.gKind, .str f147_.gName, .int .i64 f147_.gNum, .sl (List.map GTerm.c f147_.gKids)] [(3, .app 40)]), (6, .cells [.int .i64 f149_.gKind, .str f149_.gName, .int .i64 f149_.gNum, .slx] [(3, .ex 40 true (List.map GTerm.c f149_.gKids))])], []⟩ _ (by kernel_rfl) .nil ?_
            refine Wc.seq ?_
            obtain ⟨o155_, h133, h⟩ := obind h
            refine Wc.region [{}, {}, { io := [0], r := some (.v (.int .i64 o155_.2) []), outs := [(0, .v .undef [(3, .ex 1000000007 true (List.map GTerm.c o155_.1.gKids))])] }] [] [1, 4, 6, 8] [1, 4, 6] [] ⟨[(1, (.ptr 1 0, [])), (4, (.ptr 4 0, [])), (6, (.ptr 6 0, [])), (8, (.v (.int .i64 o155_.2), []))], [(1, .cells [.str d144_.gName, .sl (List.map GPart.c d144_.gParts)] []), (4, .cells [.int .i64 f147_.gKind, .str f147_.gName, .int .i64 f147_.gNum, .sl (List.map GTerm.c f147_.gKids)] [(3, .app 40)]), (6, .cells [.int .i64 f149_.gKind, .str f149_.gName, .int .i64 f149_.gNum, .slx] [(3, .ex 1000000007 true (List.map GTerm.c o155_.1.gKids))])], []⟩ _ (by kernel_rfl) (.cons (FnO.any (args := [.io (.agg [.int .i64 f149_.gKind, .str f149_.gName, .int .i64 f149_.gNum, .slx]) [(3, .ex 40 true (List.map GTerm.c f149_.gKids))], .v (.int .i64 1) []]) (claws_markTerm h133)) .nil) ?_
            refine Wc.seq ?_
            refine Wc.region [] [] [1, 4, 6, 8, 9] [1, 4, 6] [] ⟨[(1, (.ptr 1 0, [])), (4, (.ptr 4 0, [])), (6, (.ptr 6 0, [])), (8, (.v (.int .i64 o155_.2), [])), (9, (.v (.int .i64 1), []))], [(1, .cells [.str d144_.gName, .sl (List.map GPart.c d144_.gParts)] []), (4, .cells [.int .i64 f147_.gKind, .str f147_.gName, .int .i64 f147_.gNum, .sl (List.map GTerm.c f147_.gKids)] [(3, .app 40)]), (6, .cells [.int .i64 f149_.gKind, .str f149_.gName, .int .i64 f149_.gNum, .slx] [(3, .ex 1000000007 true (List.map GTerm.c o155_.1.gKids))])], []⟩ _ (by kernel_rfl) .nil ?_
            refine Wc.seq ?_
            obtain ⟨b156_, h134, h⟩ := obind h
            refine Wc.region [{}, {}, { r := some (.v (.int .i64 b156_) []) }] [] [1, 4, 6, 8, 9] [1, 4, 6] [] ⟨[(1, (.ptr 1 0, [])), (4, (.ptr 4 0, [])), (6, (.ptr 6 0, [])), (8, (.v (.int .i64 o155_.2), [])), (9, (.v (.int .i64 b156_), []))], [(1, .cells [.str d144_.gName, .sl (List.map GPart.c d144_.gParts)] []), (4, .cells [.int .i64 f147_.gKind, .str f147_.gName, .int .i64 f147_.gNum, .sl (List.map GTerm.c f147_.gKids)] [(3, .app 40)]), (6, .cells [.int .i64 f149_.gKind, .str f149_.gName, .int .i64 f149_.gNum, .slx] [(3, .ex 1000000007 true (List.map GTerm.c o155_.1.gKids))])], []⟩ _ (by kernel_rfl) (.cons (claws_heldTerm h134) .nil) ?_
            refine Wc.seq ?_
            refine Wc.seq ?_
            refine Wc.region [] [] [1, 4, 6, 8, 9, 50] [1, 4, 6] [] ⟨[(1, (.ptr 1 0, [])), (4, (.ptr 4 0, [])), (6, (.ptr 6 0, [])), (8, (.v (.int .i64 o155_.2), [])), (9, (.v (.int .i64 b156_), [])), (50, (.v (.bool (decide (b156_ < 0))), []))], [(1, .cells [.str d144_.gName, .sl (List.map GPart.c d144_.gParts)] []), (4, .cells [.int .i64 f147_.gKind, .str f147_.gName, .int .i64 f147_.gNum, .sl (List.map GTerm.c f147_.gKids)] [(3, .app 40)]), (6, .cells [.int .i64 f149_.gKind, .str f149_.gName, .int .i64 f149_.gNum, .slx] [(3, .ex 1000000007 true (List.map GTerm.c o155_.1.gKids))])], []⟩ _ (by kernel_rfl) .nil ?_
            rcases oif h with ⟨h135, h⟩ | ⟨h135, h⟩
            · refine Wc.condT h135 (by kernel_rfl) ?_
              refine Wc.seq ?_
              refine Wc.region [] [] [2] [] [] ⟨[(2, (.v (.bool false), []))], [], []⟩ _ (by kernel_rfl) .nil ?_
              refine Wc.ret ?_
              obtain rfl := Option.some.inj h
              exact ⟨.inl rfl, by kernel_rfl, by kernel_rfl⟩
            · refine Wc.condF h135 (by kernel_rfl) ?_
              refine Wc.fix (st' := ⟨[(1, (.ptr 1 0, [])), (4, (.ptr 4 0, [])), (6, (.ptr 6 0, [])), (8, (.v (.int .i64 o155_.2), [])), (9, (.v (.int .i64 b156_), []))], [(1, .cells [.str d144_.gName, .sl (List.map GPart.c d144_.gParts)] []), (4, .cells [.int .i64 f147_.gKind, .str f147_.gName, .int .i64 f147_.gNum, .sl (List.map GTerm.c f147_.gKids)] [(3, .app 40)]), (6, .cells [.int .i64 f149_.gKind, .str f149_.gName, .int .i64 f149_.gNum, .slx] [(3, .ex 1000000007 true (List.map GTerm.c o155_.1.gKids))])], []⟩) [] [1, 4, 6, 8, 9] [1, 4, 6] [] (by kernel_rfl) ?_
              refine Wc.skip ?_
              refine Wc.seq ?_
              refine Wc.seq ?_
              refine Wc.region [] [] [1, 4, 6, 8, 53] [1, 4, 6] [] ⟨[(1, (.ptr 1 0, [])), (4, (.ptr 4 0, [])), (6, (.ptr 6 0, [])), (8, (.v (.int .i64 o155_.2), [])), (53, (.v (.bool (b156_ != o155_.2)), []))], [(1, .cells [.str d144_.gName, .sl (List.map GPart.c d144_.gParts)] []), (4, .cells [.int .i64 f147_.gKind, .str f147_.gName, .int .i64 f147_.gNum, .sl (List.map GTerm.c f147_.gKids)] [(3, .app 40)]), (6, .cells [.int .i64 f149_.gKind, .str f149_.gName, .int .i64 f149_.gNum, .slx] [(3, .ex 1000000007 true (List.map GTerm.c o155_.1.gKids))])], []⟩ _ (by kernel_rfl) .nil ?_
              rcases oif h with ⟨h136, h⟩ | ⟨h136, h⟩
              · refine Wc.condT h136 (by kernel_rfl) ?_
                refine Wc.seq ?_
                refine Wc.region [] [] [2] [] [] ⟨[(2, (.v (.bool false), []))], [], []⟩ _ (by kernel_rfl) .nil ?_
                refine Wc.ret ?_
                obtain rfl := Option.some.inj h
                exact ⟨.inl rfl, by kernel_rfl, by kernel_rfl⟩
              · refine Wc.condF h136 (by kernel_rfl) ?_
                refine Wc.fix (st' := ⟨[(1, (.ptr 1 0, [])), (4, (.ptr 4 0, [])), (6, (.ptr 6 0, [])), (8, (.v (.int .i64 o155_.2), []))], [(1, .cells [.str d144_.gName, .sl (List.map GPart.c d144_.gParts)] []), (4, .cells [.int .i64 f147_.gKind, .str f147_.gName, .int .i64 f147_.gNum, .sl (List.map GTerm.c f147_.gKids)] [(3, .app 40)]), (6, .cells [.int .i64 f149_.gKind, .str f149_.gName, .int .i64 f149_.gNum, .slx] [(3, .ex 1000000007 true (List.map GTerm.c o155_.1.gKids))])], []⟩) [] [1, 4, 6, 8] [1, 4, 6] [] (by kernel_rfl) ?_
                refine Wc.skip ?_
                refine Wc.seq ?_
                obtain ⟨d157_, h137, h⟩ := obind h
                obtain ⟨f158_, h138, h⟩ := obind h
                refine Wc.region [{}, { r := some (.v (.agg [.str d157_.gName, .sl (List.map GPart.c d157_.gParts)]) []) }, { r := some (.v (.agg [.int .i64 f158_.gKind, .str f158_.gName, .int .i64 f158_.gNum, .sl (List.map GTerm.c f158_.gKids)]) []) }] [] [4, 6, 8, 10] [4, 6, 10] [] ⟨[(4, (.ptr 4 0, [])), (6, (.ptr 6 0, [])), (8, (.v (.int .i64 o155_.2), [])), (10, (.ptr 10 0, []))], [(4, .cells [.int .i64 f147_.gKind, .str f147_.gName, .int .i64 f147_.gNum, .sl (List.map GTerm.c f147_.gKids)] [(3, .app 40)]), (6, .cells [.int .i64 f149_.gKind, .str f149_.gName, .int .i64 f149_.gNum, .slx] [(3, .ex 1000000007 true (List.map GTerm.c o155_.1.gKids))]), (10, .cells [.int .i64 f158_.gKind, .str f158_.gName, .int .i64 f158_.gNum, .sl (List.map GTerm.c f158_.gKids)] [])], []⟩ _ (by kernel_rfl) (.cons (claws_toRule h137) (.cons (cimpl_RuleTerm h138) .nil)) ?_
                refine Wc.seq ?_
                refine Wc.seq ?_
                obtain ⟨j159_, h139, h⟩ := obind h
                refine Wc.region [{}, {}, { r := some (.v (.bool j159_) []) }] [] [6, 8, 60] [6] [] ⟨[(6, (.ptr 6 0, [])), (8, (.v (.int .i64 o155_.2), [])), (60, (.v (.bool (!j159_)), []))], [(6, .cells [.int .i64 f149_.gKind, .str f149_.gName, .int .i64 f149_.gNum, .slx] [(3, .ex 1000000007 true (List.map GTerm.c o155_.1.gKids))])], []⟩ _ (by kernel_rfl) (.cons (claws_eqTerm h139) .nil) ?_
                rcases oif h with ⟨h140, h⟩ | ⟨h140, h⟩
                · refine Wc.condT h140 (by kernel_rfl) ?_
                  refine Wc.seq ?_
                  refine Wc.region [] [] [2] [] [] ⟨[(2, (.v (.bool false), []))], [], []⟩ _ (by kernel_rfl) .nil ?_
                  refine Wc.ret ?_
                  obtain rfl := Option.some.inj h
                  exact ⟨.inl rfl, by kernel_rfl, by kernel_rfl⟩
                · refine Wc.condF h140 (by kernel_rfl) ?_
                  refine Wc.fix (st' := ⟨[(6, (.ptr 6 0, [])), (8, (.v (.int .i64 o155_.2), []))], [(6, .cells [.int .i64 f149_.gKind, .str f149_.gName, .int .i64 f149_.gNum, .slx] [(3, .ex 1000000007 true (List.map GTerm.c o155_.1.gKids))])], []⟩) [] [6, 8] [6] [] (by kernel_rfl) ?_
                  refine Wc.skip ?_
                  refine Wc.seq ?_
                  refine Wc.region [] [] [6, 8, 9] [6] [] ⟨[(6, (.ptr 6 0, [])), (8, (.v (.int .i64 o155_.2), [])), (9, (.v (.int .i64 1), []))], [(6, .cells [.int .i64 f149_.gKind, .str f149_.gName, .int .i64 f149_.gNum, .slx] [(3, .ex 1000000007 true (List.map GTerm.c o155_.1.gKids))])], []⟩ _ (by kernel_rfl) .nil ?_
                  refine Wc.seq ?_
                  obtain ⟨b160_, h141, h⟩ := obind h
                  refine Wc.region [{}, {}, { r := some (.v (.int .i64 b160_) []) }] [] [8, 9] [] [] ⟨[(8, (.v (.int .i64 o155_.2), [])), (9, (.v (.int .i64 b160_), []))], [], []⟩ _ (by kernel_rfl) (.cons (claws_heldTerm h141) .nil) ?_
                  refine Wc.seq ?_
                  refine Wc.seq ?_
                  refine Wc.region [] [] [8, 9, 65] [] [] ⟨[(8, (.v (.int .i64 o155_.2), [])), (9, (.v (.int .i64 b160_), [])), (65, (.v (.bool (decide (b160_ < 0))), []))], [], []⟩ _ (by kernel_rfl) .nil ?_
                  rcases oif h with ⟨h142, h⟩ | ⟨h142, h⟩
                  · refine Wc.condT h142 (by kernel_rfl) ?_
                    refine Wc.seq ?_
                    refine Wc.region [] [] [2] [] [] ⟨[(2, (.v (.bool false), []))], [], []⟩ _ (by kernel_rfl) .nil ?_
                    refine Wc.ret ?_
                    obtain rfl := Option.some.inj h
                    exact ⟨.inl rfl, by kernel_rfl, by kernel_rfl⟩
                  · refine Wc.condF h142 (by kernel_rfl) ?_
                    refine Wc.fix (st' := ⟨[(8, (.v (.int .i64 o155_.2), [])), (9, (.v (.int .i64 b160_), []))], [], []⟩) [] [8, 9] [] [] (by kernel_rfl) ?_
                    refine Wc.skip ?_
                    refine Wc.seq ?_
                    refine Wc.seq ?_
                    refine Wc.region [] [] [68] [] [] ⟨[(68, (.v (.bool (b160_ != o155_.2)), []))], [], []⟩ _ (by kernel_rfl) .nil ?_
                    rcases oif h with ⟨h143, h⟩ | ⟨h143, h⟩
                    · refine Wc.condT h143 (by kernel_rfl) ?_
                      refine Wc.seq ?_
                      refine Wc.region [] [] [2] [] [] ⟨[(2, (.v (.bool false), []))], [], []⟩ _ (by kernel_rfl) .nil ?_
                      refine Wc.ret ?_
                      obtain rfl := Option.some.inj h
                      exact ⟨.inl rfl, by kernel_rfl, by kernel_rfl⟩
                    · refine Wc.condF h143 (by kernel_rfl) ?_
                      refine Wc.fix (st' := ⟨[], [], []⟩) [] [] [] [] (by kernel_rfl) ?_
                      refine Wc.skip ?_
                      refine Wc.seq ?_
                      refine Wc.region [] [] [2] [] [] ⟨[(2, (.v (.bool true), []))], [], []⟩ _ (by kernel_rfl) .nil ?_
                      refine Wc.ret ?_
                      obtain rfl := Option.some.inj h
                      exact ⟨.inl rfl, by kernel_rfl, by kernel_rfl⟩
end Go.Proofs.Ytjgagbajgdmocaa

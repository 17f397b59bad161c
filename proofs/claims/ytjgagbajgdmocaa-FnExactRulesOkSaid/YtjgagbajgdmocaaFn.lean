/- What the functions do. -/
import Derived.Test.YtjgagbajgdmocaaTy
set_option linter.unusedVariables false
set_option linter.unusedSimpArgs false
namespace Go.Proofs.Ytjgagbajgdmocaa
open Go.RowKit Go.Bv
/-- laws.szPart -/
def plaws_szPart (k : Nat) (a1_ : GPart) (b2_ : Int) : Option Int :=
  if (decide ((wr.i64 (b2_ - (a1_.gName.size : Int))) < 0)) = true then
    some (-1)
  else
    some (wr.i64 (b2_ - (a1_.gName.size : Int)))
theorem claws_szPart {k : Nat} {a1_ : GPart} {b2_ : Int} {r : Int} (h : plaws_szPart k a1_ b2_ = some r) : FnO Try.prog 88 [.v (.agg [.bool a1_.gWord, .str a1_.gName]) [], .v (.int .i64 b2_) []] (.v (.int .i64 r) []) [] := by
  refine FnO.of Try.func88 (rfl : Try.f88.body = some _) (Nat.le_of_ble_eq_true (by kernel_rfl)) (Nat.le_of_ble_eq_true (by kernel_rfl)) ?_
  intro w0 X0 Fin pv0 pb
  unfold plaws_szPart at h
  refine Wc.seq ?_
  refine Wc.region [] [] [1, 2] [2] [] ⟨[(1, (.v (.int .i64 b2_), [])), (2, (.ptr 2 0, []))], [(2, .cells [.bool a1_.gWord, .str a1_.gName] [])], []⟩ _ (by kernel_rfl) .nil ?_
  refine Wc.seq ?_
  refine Wc.region [] [] [1] [] [] ⟨[(1, (.v (.int .i64 (wr.i64 (b2_ - (a1_.gName.size : Int)))), []))], [], []⟩ _ (by kernel_rfl) .nil ?_
  refine Wc.seq ?_
  refine Wc.seq ?_
  refine Wc.region [] [] [1, 11] [] [] ⟨[(1, (.v (.int .i64 (wr.i64 (b2_ - (a1_.gName.size : Int)))), [])), (11, (.v (.bool (decide ((wr.i64 (b2_ - (a1_.gName.size : Int))) < 0))), []))], [], []⟩ _ (by kernel_rfl) .nil ?_
  rcases oif h with ⟨h1, h⟩ | ⟨h1, h⟩
  · refine Wc.condT h1 (by kernel_rfl) ?_
    refine Wc.seq ?_
    refine Wc.region [] [] [4] [] [] ⟨[(4, (.v (.int .i64 (-1)), []))], [], []⟩ _ (by kernel_rfl) .nil ?_
    refine Wc.ret ?_
    obtain rfl := Option.some.inj h
    exact ⟨.inl rfl, by kernel_rfl, by kernel_rfl⟩
  · refine Wc.condF h1 (by kernel_rfl) ?_
    refine Wc.fix (st' := ⟨[(1, (.v (.int .i64 (wr.i64 (b2_ - (a1_.gName.size : Int)))), []))], [], []⟩) [] [1] [] [] (by kernel_rfl) ?_
    refine Wc.skip ?_
    refine Wc.seq ?_
    refine Wc.region [] [] [4] [] [] ⟨[(4, (.v (.int .i64 (wr.i64 (b2_ - (a1_.gName.size : Int)))), []))], [], []⟩ _ (by kernel_rfl) .nil ?_
    refine Wc.ret ?_
    obtain rfl := Option.some.inj h
    exact ⟨.inl rfl, by kernel_rfl, by kernel_rfl⟩

def plaws_szPartS_L1 (k : Nat) (c3_ : List GPart) : Nat → Int → Int → Option (Out Int Int)
  | 0, _, _ => none
  | m + 1, b5_, b6_ =>
    if (decide (b6_ < (c3_.length : Int))) = true then
      (at' c3_ b6_).bind fun a8_ =>
      (plaws_szPart k a8_ b5_).bind fun b9_ =>
      if (decide (b9_ < 0)) = true then
        some (.ret (-1))
      else
        plaws_szPartS_L1 k c3_ m b9_ (wr.i64 (b6_ + 1))
    else
      some (.done b5_)
/-- laws.szPartS -/
def plaws_szPartS (k : Nat) (c3_ : List GPart) (b4_ : Int) : Option Int :=
  if (decide ((wr.i64 (b4_ - (c3_.length : Int))) < 0)) = true then
    some (-1)
  else
    (plaws_szPartS_L1 k c3_ k (wr.i64 (b4_ - (c3_.length : Int))) 0).bind fun out1 => match out1 with
    | .ret r => some r
    | .done b7_ =>
      some b7_
theorem claws_szPartS {k : Nat} {c3_ : List GPart} {b4_ : Int} {r : Int} (h : plaws_szPartS k c3_ b4_ = some r) : FnO Try.prog 55 [.v (.sl (List.map GPart.c c3_)) [], .v (.int .i64 b4_) []] (.v (.int .i64 r) []) [] := by
  refine FnO.of Try.func55 (rfl : Try.f55.body = some _) (Nat.le_of_ble_eq_true (by kernel_rfl)) (Nat.le_of_ble_eq_true (by kernel_rfl)) ?_
  intro w0 X0 Fin pv0 pb
  unfold plaws_szPartS at h
  refine Wc.seq ?_
  refine Wc.region [] [] [0, 1] [] [] ⟨[(0, (.v (.sl (List.map GPart.c c3_)), [])), (1, (.v (.int .i64 b4_), []))], [], []⟩ _ (by kernel_rfl) .nil ?_
  refine Wc.seq ?_
  refine Wc.region [{}, {}, { v := some (.int .i64 (c3_.length : Int)) }] [] [0, 1] [] [] ⟨[(0, (.v (.sl (List.map GPart.c c3_)), [])), (1, (.v (.int .i64 (wr.i64 (b4_ - (c3_.length : Int)))), []))], [], []⟩ _ (by kernel_rfl) (.cons (len_obl GPart.c c3_) .nil) ?_
  refine Wc.seq ?_
  refine Wc.seq ?_
  refine Wc.region [] [] [0, 1, 11] [] [] ⟨[(0, (.v (.sl (List.map GPart.c c3_)), [])), (1, (.v (.int .i64 (wr.i64 (b4_ - (c3_.length : Int)))), [])), (11, (.v (.bool (decide ((wr.i64 (b4_ - (c3_.length : Int))) < 0))), []))], [], []⟩ _ (by kernel_rfl) .nil ?_
  rcases oif h with ⟨h2, h⟩ | ⟨h2, h⟩
  · refine Wc.condT h2 (by kernel_rfl) ?_
    refine Wc.seq ?_
    refine Wc.region [] [] [4] [] [] ⟨[(4, (.v (.int .i64 (-1)), []))], [], []⟩ _ (by kernel_rfl) .nil ?_
    refine Wc.ret ?_
    obtain rfl := Option.some.inj h
    exact ⟨.inl rfl, by kernel_rfl, by kernel_rfl⟩
  · refine Wc.condF h2 (by kernel_rfl) ?_
    refine Wc.fix (st' := ⟨[(0, (.v (.sl (List.map GPart.c c3_)), [])), (1, (.v (.int .i64 (wr.i64 (b4_ - (c3_.length : Int)))), []))], [], []⟩) [] [0, 1] [] [] (by kernel_rfl) ?_
    refine Wc.skip ?_
    refine Wc.seq ?_
    refine Wc.seq ?_
    refine Wc.region [] [] [0, 1, 5] [] [] ⟨[(0, (.v (.sl (List.map GPart.c c3_)), [])), (1, (.v (.int .i64 (wr.i64 (b4_ - (c3_.length : Int)))), [])), (5, (.v (.int .i64 0), []))], [], []⟩ _ (by kernel_rfl) .nil ?_
    obtain ⟨out1, h3, h⟩ := obind h
    refine Wc.lastJ (fun st => ∃ (b7_ : Int), out1 = .done b7_ ∧ st = ⟨[(1, (.v (.int .i64 b7_), []))], [], []⟩) ?_ ?_
    · refine Wc.block ?_
      refine Wc.loop (fun m st => ∃ (b5_ : Int) (b6_ : Int), st = ⟨[(0, (.v (.sl (List.map GPart.c c3_)), [])), (1, (.v (.int .i64 b5_), [])), (5, (.v (.int .i64 b6_), []))], [], []⟩ ∧ plaws_szPartS_L1 k c3_ m b5_ b6_ = some out1) ?_ k ⟨_, _, rfl, h3⟩
      rintro m st ⟨b5_, b6_, rfl, h3⟩
      cases m with
      | zero => exact (onone h3).elim
      | succ m =>
        refine Wc.seq ?_
        refine Wc.seq ?_
        refine Wc.region [{}, {}, { v := some (.int .i64 (c3_.length : Int)) }] [] [0, 1, 5, 15] [] [] ⟨[(0, (.v (.sl (List.map GPart.c c3_)), [])), (1, (.v (.int .i64 b5_), [])), (5, (.v (.int .i64 b6_), [])), (15, (.v (.bool (decide (b6_ < (c3_.length : Int)))), []))], [], []⟩ _ (by kernel_rfl) (.cons (len_obl GPart.c c3_) .nil) ?_
        rcases oif h3 with ⟨h4, h3⟩ | ⟨h4, h3⟩
        · refine Wc.condT h4 (by kernel_rfl) ?_
          refine Wc.fix (st' := ⟨[(0, (.v (.sl (List.map GPart.c c3_)), [])), (1, (.v (.int .i64 b5_), [])), (5, (.v (.int .i64 b6_), []))], [], []⟩) [] [0, 1, 5] [] [] (by kernel_rfl) ?_
          refine Wc.skip ?_
          refine Wc.seq ?_
          refine Wc.block ?_
          refine Wc.seq ?_
          obtain ⟨a8_, h5, h3⟩ := obind h3
          obtain ⟨b9_, h6, h3⟩ := obind h3
          refine Wc.region [{}, {}, { v := some (.vptr [.bool a8_.gWord, .str a8_.gName]) }, {}, {}, { r := some (.v (.int .i64 b9_) []) }] [] [0, 1, 5] [] [] ⟨[(0, (.v (.sl (List.map GPart.c c3_)), [])), (1, (.v (.int .i64 b9_), [])), (5, (.v (.int .i64 b6_), []))], [], []⟩ _ (by kernel_rfl) (.cons (at_obl (c := GPart.c) (GPart.c_eq a8_) GPart.c_len h5) (.cons (len_ok 2 [.bool a8_.gWord, .str a8_.gName]) (.cons (claws_szPart h6) .nil))) ?_
          refine Wc.seq ?_
          refine Wc.region [] [] [0, 1, 5, 25] [] [] ⟨[(0, (.v (.sl (List.map GPart.c c3_)), [])), (1, (.v (.int .i64 b9_), [])), (5, (.v (.int .i64 b6_), [])), (25, (.v (.bool (decide (b9_ < 0))), []))], [], []⟩ _ (by kernel_rfl) .nil ?_
          rcases oif h3 with ⟨h7, h3⟩ | ⟨h7, h3⟩
          · refine Wc.condT h7 (by kernel_rfl) ?_
            refine Wc.seq ?_
            refine Wc.region [] [] [4] [] [] ⟨[(4, (.v (.int .i64 (-1)), []))], [], []⟩ _ (by kernel_rfl) .nil ?_
            refine Wc.ret ?_
            obtain rfl := Option.some.inj h3
            obtain rfl := Option.some.inj h
            exact ⟨.inl rfl, by kernel_rfl, by kernel_rfl⟩
          · refine Wc.condF h7 (by kernel_rfl) ?_
            refine Wc.fix (st' := ⟨[(0, (.v (.sl (List.map GPart.c c3_)), [])), (1, (.v (.int .i64 b9_), [])), (5, (.v (.int .i64 b6_), []))], [], []⟩) [] [0, 1, 5] [] [] (by kernel_rfl) ?_
            refine Wc.skip ?_
            refine Wc.region [] [] [0, 1, 5] [] [] ⟨[(0, (.v (.sl (List.map GPart.c c3_)), [])), (1, (.v (.int .i64 b9_), [])), (5, (.v (.int .i64 (wr.i64 (b6_ + 1))), []))], [], []⟩ _ (by kernel_rfl) .nil ?_
            exact ⟨_, Nat.lt_succ_self _, _, _, rfl, h3⟩
        · refine Wc.condF h4 (by kernel_rfl) ?_
          refine Wc.fix (st' := ⟨[(1, (.v (.int .i64 b5_), []))], [], []⟩) [] [1] [] [] (by kernel_rfl) ?_
          refine Wc.exit ?_
          obtain rfl := Option.some.inj h3
          exact ⟨_, rfl, rfl⟩
    · rintro st ⟨b7_, rfl, rfl⟩
      refine Wc.seq ?_
      refine Wc.region [] [] [4] [] [] ⟨[(4, (.v (.int .i64 b7_), []))], [], []⟩ _ (by kernel_rfl) .nil ?_
      refine Wc.ret ?_
      obtain rfl := Option.some.inj h
      exact ⟨.inl rfl, by kernel_rfl, by kernel_rfl⟩

/-- laws.szRule -/
def plaws_szRule (k : Nat) (d10_ : GRule) (b11_ : Int) : Option Int :=
  if (decide ((wr.i64 (b11_ - (d10_.gName.size : Int))) < 0)) = true then
    some (-1)
  else
    (plaws_szPartS k d10_.gParts (wr.i64 (b11_ - (d10_.gName.size : Int)))).bind fun b12_ =>
    if (decide (b12_ < 0)) = true then
      some (-1)
    else
      some b12_
theorem claws_szRule {k : Nat} {d10_ : GRule} {b11_ : Int} {r : Int} (h : plaws_szRule k d10_ b11_ = some r) : FnO Try.prog 14 [.v (.agg [.str d10_.gName, .sl (List.map GPart.c d10_.gParts)]) [], .v (.int .i64 b11_) []] (.v (.int .i64 r) []) [] := by
  refine FnO.of Try.func14 (rfl : Try.f14.body = some _) (Nat.le_of_ble_eq_true (by kernel_rfl)) (Nat.le_of_ble_eq_true (by kernel_rfl)) ?_
  intro w0 X0 Fin pv0 pb
  unfold plaws_szRule at h
  refine Wc.seq ?_
  refine Wc.region [] [] [1, 2] [2] [] ⟨[(1, (.v (.int .i64 b11_), [])), (2, (.ptr 2 0, []))], [(2, .cells [.str d10_.gName, .sl (List.map GPart.c d10_.gParts)] [])], []⟩ _ (by kernel_rfl) .nil ?_
  refine Wc.seq ?_
  refine Wc.region [] [] [1, 2] [2] [] ⟨[(1, (.v (.int .i64 (wr.i64 (b11_ - (d10_.gName.size : Int)))), [])), (2, (.ptr 2 0, []))], [(2, .cells [.str d10_.gName, .sl (List.map GPart.c d10_.gParts)] [])], []⟩ _ (by kernel_rfl) .nil ?_
  refine Wc.seq ?_
  refine Wc.seq ?_
  refine Wc.region [] [] [1, 2, 11] [2] [] ⟨[(1, (.v (.int .i64 (wr.i64 (b11_ - (d10_.gName.size : Int)))), [])), (2, (.ptr 2 0, [])), (11, (.v (.bool (decide ((wr.i64 (b11_ - (d10_.gName.size : Int))) < 0))), []))], [(2, .cells [.str d10_.gName, .sl (List.map GPart.c d10_.gParts)] [])], []⟩ _ (by kernel_rfl) .nil ?_
  rcases oif h with ⟨h8, h⟩ | ⟨h8, h⟩
  · refine Wc.condT h8 (by kernel_rfl) ?_
    refine Wc.seq ?_
    refine Wc.region [] [] [4] [] [] ⟨[(4, (.v (.int .i64 (-1)), []))], [], []⟩ _ (by kernel_rfl) .nil ?_
    refine Wc.ret ?_
    obtain rfl := Option.some.inj h
    exact ⟨.inl rfl, by kernel_rfl, by kernel_rfl⟩
  · refine Wc.condF h8 (by kernel_rfl) ?_
    refine Wc.fix (st' := ⟨[(1, (.v (.int .i64 (wr.i64 (b11_ - (d10_.gName.size : Int)))), [])), (2, (.ptr 2 0, []))], [(2, .cells [.str d10_.gName, .sl (List.map GPart.c d10_.gParts)] [])], []⟩) [] [1, 2] [2] [] (by kernel_rfl) ?_
    refine Wc.skip ?_
    refine Wc.seq ?_
    obtain ⟨b12_, h9, h⟩ := obind h
    refine Wc.region [{}, {}, {}, { r := some (.v (.int .i64 b12_) []) }] [] [1] [] [] ⟨[(1, (.v (.int .i64 b12_), []))], [], []⟩ _ (by kernel_rfl) (.cons (claws_szPartS h9) .nil) ?_
    refine Wc.seq ?_
    refine Wc.seq ?_
    refine Wc.region [] [] [1, 17] [] [] ⟨[(1, (.v (.int .i64 b12_), [])), (17, (.v (.bool (decide (b12_ < 0))), []))], [], []⟩ _ (by kernel_rfl) .nil ?_
    rcases oif h with ⟨h10, h⟩ | ⟨h10, h⟩
    · refine Wc.condT h10 (by kernel_rfl) ?_
      refine Wc.seq ?_
      refine Wc.region [] [] [4] [] [] ⟨[(4, (.v (.int .i64 (-1)), []))], [], []⟩ _ (by kernel_rfl) .nil ?_
      refine Wc.ret ?_
      obtain rfl := Option.some.inj h
      exact ⟨.inl rfl, by kernel_rfl, by kernel_rfl⟩
    · refine Wc.condF h10 (by kernel_rfl) ?_
      refine Wc.fix (st' := ⟨[(1, (.v (.int .i64 b12_), []))], [], []⟩) [] [1] [] [] (by kernel_rfl) ?_
      refine Wc.skip ?_
      refine Wc.seq ?_
      refine Wc.region [] [] [4] [] [] ⟨[(4, (.v (.int .i64 b12_), []))], [], []⟩ _ (by kernel_rfl) .nil ?_
      refine Wc.ret ?_
      obtain rfl := Option.some.inj h
      exact ⟨.inl rfl, by kernel_rfl, by kernel_rfl⟩

def plaws_szRuleS_L1 (k : Nat) (e13_ : List GRule) : Nat → Int → Int → Option (Out Int Int)
  | 0, _, _ => none
  | m + 1, b15_, b16_ =>
    if (decide (b16_ < (e13_.length : Int))) = true then
      (at' e13_ b16_).bind fun d18_ =>
      (plaws_szRule k d18_ b15_).bind fun b19_ =>
      if (decide (b19_ < 0)) = true then
        some (.ret (-1))
      else
        plaws_szRuleS_L1 k e13_ m b19_ (wr.i64 (b16_ + 1))
    else
      some (.done b15_)
/-- laws.szRuleS -/
def plaws_szRuleS (k : Nat) (e13_ : List GRule) (b14_ : Int) : Option Int :=
  if (decide ((wr.i64 (b14_ - (e13_.length : Int))) < 0)) = true then
    some (-1)
  else
    (plaws_szRuleS_L1 k e13_ k (wr.i64 (b14_ - (e13_.length : Int))) 0).bind fun out1 => match out1 with
    | .ret r => some r
    | .done b17_ =>
      some b17_
theorem claws_szRuleS {k : Nat} {e13_ : List GRule} {b14_ : Int} {r : Int} (h : plaws_szRuleS k e13_ b14_ = some r) : FnO Try.prog 28 [.v (.sl (List.map GRule.c e13_)) [], .v (.int .i64 b14_) []] (.v (.int .i64 r) []) [] := by
  refine FnO.of Try.func28 (rfl : Try.f28.body = some _) (Nat.le_of_ble_eq_true (by kernel_rfl)) (Nat.le_of_ble_eq_true (by kernel_rfl)) ?_
  intro w0 X0 Fin pv0 pb
  unfold plaws_szRuleS at h
  refine Wc.seq ?_
  refine Wc.region [] [] [0, 1] [] [] ⟨[(0, (.v (.sl (List.map GRule.c e13_)), [])), (1, (.v (.int .i64 b14_), []))], [], []⟩ _ (by kernel_rfl) .nil ?_
  refine Wc.seq ?_
  refine Wc.region [{}, {}, { v := some (.int .i64 (e13_.length : Int)) }] [] [0, 1] [] [] ⟨[(0, (.v (.sl (List.map GRule.c e13_)), [])), (1, (.v (.int .i64 (wr.i64 (b14_ - (e13_.length : Int)))), []))], [], []⟩ _ (by kernel_rfl) (.cons (len_obl GRule.c e13_) .nil) ?_
  refine Wc.seq ?_
  refine Wc.seq ?_
  refine Wc.region [] [] [0, 1, 11] [] [] ⟨[(0, (.v (.sl (List.map GRule.c e13_)), [])), (1, (.v (.int .i64 (wr.i64 (b14_ - (e13_.length : Int)))), [])), (11, (.v (.bool (decide ((wr.i64 (b14_ - (e13_.length : Int))) < 0))), []))], [], []⟩ _ (by kernel_rfl) .nil ?_
  rcases oif h with ⟨h11, h⟩ | ⟨h11, h⟩
  · refine Wc.condT h11 (by kernel_rfl) ?_
    refine Wc.seq ?_
    refine Wc.region [] [] [4] [] [] ⟨[(4, (.v (.int .i64 (-1)), []))], [], []⟩ _ (by kernel_rfl) .nil ?_
    refine Wc.ret ?_
    obtain rfl := Option.some.inj h
    exact ⟨.inl rfl, by kernel_rfl, by kernel_rfl⟩
  · refine Wc.condF h11 (by kernel_rfl) ?_
    refine Wc.fix (st' := ⟨[(0, (.v (.sl (List.map GRule.c e13_)), [])), (1, (.v (.int .i64 (wr.i64 (b14_ - (e13_.length : Int)))), []))], [], []⟩) [] [0, 1] [] [] (by kernel_rfl) ?_
    refine Wc.skip ?_
    refine Wc.seq ?_
    refine Wc.seq ?_
    refine Wc.region [] [] [0, 1, 5] [] [] ⟨[(0, (.v (.sl (List.map GRule.c e13_)), [])), (1, (.v (.int .i64 (wr.i64 (b14_ - (e13_.length : Int)))), [])), (5, (.v (.int .i64 0), []))], [], []⟩ _ (by kernel_rfl) .nil ?_
    obtain ⟨out1, h12, h⟩ := obind h
    refine Wc.lastJ (fun st => ∃ (b17_ : Int), out1 = .done b17_ ∧ st = ⟨[(1, (.v (.int .i64 b17_), []))], [], []⟩) ?_ ?_
    · refine Wc.block ?_
      refine Wc.loop (fun m st => ∃ (b15_ : Int) (b16_ : Int), st = ⟨[(0, (.v (.sl (List.map GRule.c e13_)), [])), (1, (.v (.int .i64 b15_), [])), (5, (.v (.int .i64 b16_), []))], [], []⟩ ∧ plaws_szRuleS_L1 k e13_ m b15_ b16_ = some out1) ?_ k ⟨_, _, rfl, h12⟩
      rintro m st ⟨b15_, b16_, rfl, h12⟩
      cases m with
      | zero => exact (onone h12).elim
      | succ m =>
        refine Wc.seq ?_
        refine Wc.seq ?_
        refine Wc.region [{}, {}, { v := some (.int .i64 (e13_.length : Int)) }] [] [0, 1, 5, 15] [] [] ⟨[(0, (.v (.sl (List.map GRule.c e13_)), [])), (1, (.v (.int .i64 b15_), [])), (5, (.v (.int .i64 b16_), [])), (15, (.v (.bool (decide (b16_ < (e13_.length : Int)))), []))], [], []⟩ _ (by kernel_rfl) (.cons (len_obl GRule.c e13_) .nil) ?_
        rcases oif h12 with ⟨h13, h12⟩ | ⟨h13, h12⟩
        · refine Wc.condT h13 (by kernel_rfl) ?_
          refine Wc.fix (st' := ⟨[(0, (.v (.sl (List.map GRule.c e13_)), [])), (1, (.v (.int .i64 b15_), [])), (5, (.v (.int .i64 b16_), []))], [], []⟩) [] [0, 1, 5] [] [] (by kernel_rfl) ?_
          refine Wc.skip ?_
          refine Wc.seq ?_
          refine Wc.block ?_
          refine Wc.seq ?_
          obtain ⟨d18_, h14, h12⟩ := obind h12
          obtain ⟨b19_, h15, h12⟩ := obind h12
          refine Wc.region [{}, {}, { v := some (.vptr [.str d18_.gName, .sl (List.map GPart.c d18_.gParts)]) }, {}, {}, { r := some (.v (.int .i64 b19_) []) }] [] [0, 1, 5] [] [] ⟨[(0, (.v (.sl (List.map GRule.c e13_)), [])), (1, (.v (.int .i64 b19_), [])), (5, (.v (.int .i64 b16_), []))], [], []⟩ _ (by kernel_rfl) (.cons (at_obl (c := GRule.c) (GRule.c_eq d18_) GRule.c_len h14) (.cons (len_ok 2 [.str d18_.gName, .sl (List.map GPart.c d18_.gParts)]) (.cons (claws_szRule h15) .nil))) ?_
          refine Wc.seq ?_
          refine Wc.region [] [] [0, 1, 5, 25] [] [] ⟨[(0, (.v (.sl (List.map GRule.c e13_)), [])), (1, (.v (.int .i64 b19_), [])), (5, (.v (.int .i64 b16_), [])), (25, (.v (.bool (decide (b19_ < 0))), []))], [], []⟩ _ (by kernel_rfl) .nil ?_
          rcases oif h12 with ⟨h16, h12⟩ | ⟨h16, h12⟩
          · refine Wc.condT h16 (by kernel_rfl) ?_
            refine Wc.seq ?_
            refine Wc.region [] [] [4] [] [] ⟨[(4, (.v (.int .i64 (-1)), []))], [], []⟩ _ (by kernel_rfl) .nil ?_
            refine Wc.ret ?_
            obtain rfl := Option.some.inj h12
            obtain rfl := Option.some.inj h
            exact ⟨.inl rfl, by kernel_rfl, by kernel_rfl⟩
          · refine Wc.condF h16 (by kernel_rfl) ?_
            refine Wc.fix (st' := ⟨[(0, (.v (.sl (List.map GRule.c e13_)), [])), (1, (.v (.int .i64 b19_), [])), (5, (.v (.int .i64 b16_), []))], [], []⟩) [] [0, 1, 5] [] [] (by kernel_rfl) ?_
            refine Wc.skip ?_
            refine Wc.region [] [] [0, 1, 5] [] [] ⟨[(0, (.v (.sl (List.map GRule.c e13_)), [])), (1, (.v (.int .i64 b19_), [])), (5, (.v (.int .i64 (wr.i64 (b16_ + 1))), []))], [], []⟩ _ (by kernel_rfl) .nil ?_
            exact ⟨_, Nat.lt_succ_self _, _, _, rfl, h12⟩
        · refine Wc.condF h13 (by kernel_rfl) ?_
          refine Wc.fix (st' := ⟨[(1, (.v (.int .i64 b15_), []))], [], []⟩) [] [1] [] [] (by kernel_rfl) ?_
          refine Wc.exit ?_
          obtain rfl := Option.some.inj h12
          exact ⟨_, rfl, rfl⟩
    · rintro st ⟨b17_, rfl, rfl⟩
      refine Wc.seq ?_
      refine Wc.region [] [] [4] [] [] ⟨[(4, (.v (.int .i64 b17_), []))], [], []⟩ _ (by kernel_rfl) .nil ?_
      refine Wc.ret ?_
      obtain rfl := Option.some.inj h
      exact ⟨.inl rfl, by kernel_rfl, by kernel_rfl⟩

/-- spec.l01In -/
def pspec_l01In (k : Nat) (b20_ : Int) (b21_ : Int) (b22_ : Int) : Option Bool :=
  if (decide (b20_ ≥ b21_)) = true then
    some (decide (b20_ ≤ b22_))
  else
    some false
theorem cspec_l01In {k : Nat} {b20_ : Int} {b21_ : Int} {b22_ : Int} {r : Bool} (h : pspec_l01In k b20_ b21_ b22_ = some r) : FnO Try.prog 46 [.v (.int .i64 b20_) [], .v (.int .i64 b21_) [], .v (.int .i64 b22_) []] (.v (.bool r) []) [] := by
  refine FnO.of Try.func46 (rfl : Try.f46.body = some _) (Nat.le_of_ble_eq_true (by kernel_rfl)) (Nat.le_of_ble_eq_true (by kernel_rfl)) ?_
  intro w0 X0 Fin pv0 pb
  unfold pspec_l01In at h
  refine Wc.seq ?_
  refine Wc.region [] [] [0, 1, 2] [] [] ⟨[(0, (.v (.int .i64 b20_), [])), (1, (.v (.int .i64 b21_), [])), (2, (.v (.int .i64 b22_), []))], [], []⟩ _ (by kernel_rfl) .nil ?_
  refine Wc.seq ?_
  rcases oif h with ⟨h17, h⟩ | ⟨h17, h⟩
  · refine Wc.region [{}, {}, {}, { re := some (.bool true) }] [] [6] [] [] ⟨[(6, (.v (.bool (decide (b20_ ≤ b22_))), []))], [], []⟩ _ (by kernel_rfl) (.cons (congrArg AV.bool h17) .nil) ?_
    refine Wc.ret ?_
    obtain rfl := Option.some.inj h
    exact ⟨.inl rfl, by kernel_rfl, by kernel_rfl⟩
  · refine Wc.region [{}, {}, {}, { re := some (.bool false) }] [] [6] [] [] ⟨[(6, (.v (.bool false), []))], [], []⟩ _ (by kernel_rfl) (.cons (congrArg AV.bool h17) .nil) ?_
    refine Wc.ret ?_
    obtain rfl := Option.some.inj h
    exact ⟨.inl rfl, by kernel_rfl, by kernel_rfl⟩

/-- spec.l05Small -/
def pspec_l05Small (k : Nat) (b23_ : Int) : Option Bool :=
  if (decide (b23_ ≥ 97)) = true then
    some (decide (b23_ ≤ 122))
  else
    some false
theorem cspec_l05Small {k : Nat} {b23_ : Int} {r : Bool} (h : pspec_l05Small k b23_ = some r) : FnO Try.prog 109 [.v (.int .u8 b23_) []] (.v (.bool r) []) [] := by
  refine FnO.of Try.func109 (rfl : Try.f109.body = some _) (Nat.le_of_ble_eq_true (by kernel_rfl)) (Nat.le_of_ble_eq_true (by kernel_rfl)) ?_
  intro w0 X0 Fin pv0 pb
  unfold pspec_l05Small at h
  refine Wc.seq ?_
  refine Wc.region [] [] [0] [] [] ⟨[(0, (.v (.int .u8 b23_), []))], [], []⟩ _ (by kernel_rfl) .nil ?_
  refine Wc.seq ?_
  rcases oif h with ⟨h18, h⟩ | ⟨h18, h⟩
  · refine Wc.region [{}, {}, { re := some (.bool true) }] [] [2] [] [] ⟨[(2, (.v (.bool (decide (b23_ ≤ 122))), []))], [], []⟩ _ (by kernel_rfl) (.cons (congrArg AV.bool h18) .nil) ?_
    refine Wc.ret ?_
    obtain rfl := Option.some.inj h
    exact ⟨.inl rfl, by kernel_rfl, by kernel_rfl⟩
  · refine Wc.region [{}, {}, { re := some (.bool false) }] [] [2] [] [] ⟨[(2, (.v (.bool false), []))], [], []⟩ _ (by kernel_rfl) (.cons (congrArg AV.bool h18) .nil) ?_
    refine Wc.ret ?_
    obtain rfl := Option.some.inj h
    exact ⟨.inl rfl, by kernel_rfl, by kernel_rfl⟩

def pspec_l16Name_L1 (k : Nat) (f24_ : ByteArray) : Nat → Int → Option (Out Bool Unit)
  | 0, _ => none
  | m + 1, b25_ =>
    if (decide (b25_ < (f24_.size : Int))) = true then
      if 0 ≤ b25_ ∧ (b25_).toNat < f24_.size then
        (pspec_l05Small k (bt f24_ b25_)).bind fun g26_ =>
        if (!g26_) = true then
          some (.ret false)
        else
          pspec_l16Name_L1 k f24_ m (wr.i64 (b25_ + 1))
      else none
    else
      some (.done ())
/-- spec.l16Name -/
def pspec_l16Name (k : Nat) (f24_ : ByteArray) : Option Bool :=
  (pspec_l16Name_L1 k f24_ k 0).bind fun out1 => match out1 with
  | .ret r => some r
  | .done () =>
    (pspec_l01In k (f24_.size : Int) 1 8).bind fun g27_ =>
    some g27_
theorem cspec_l16Name {k : Nat} {f24_ : ByteArray} {r : Bool} (h : pspec_l16Name k f24_ = some r) : FnO Try.prog 94 [.v (.str f24_) []] (.v (.bool r) []) [] := by
  refine FnO.of Try.func94 (rfl : Try.f94.body = some _) (Nat.le_of_ble_eq_true (by kernel_rfl)) (Nat.le_of_ble_eq_true (by kernel_rfl)) ?_
  intro w0 X0 Fin pv0 pb
  unfold pspec_l16Name at h
  refine Wc.seq ?_
  refine Wc.region [] [] [0] [] [] ⟨[(0, (.v (.str f24_), []))], [], []⟩ _ (by kernel_rfl) .nil ?_
  refine Wc.seq ?_
  refine Wc.seq ?_
  refine Wc.region [] [] [0, 3] [] [] ⟨[(0, (.v (.str f24_), [])), (3, (.v (.int .i64 0), []))], [], []⟩ _ (by kernel_rfl) .nil ?_
  obtain ⟨out1, h19, h⟩ := obind h
  refine Wc.lastJ (fun st => out1 = .done () ∧ st = ⟨[(0, (.v (.str f24_), []))], [], []⟩) ?_ ?_
  · refine Wc.block ?_
    refine Wc.loop (fun m st => ∃ (b25_ : Int), st = ⟨[(0, (.v (.str f24_), [])), (3, (.v (.int .i64 b25_), []))], [], []⟩ ∧ pspec_l16Name_L1 k f24_ m b25_ = some out1) ?_ k ⟨_, rfl, h19⟩
    rintro m st ⟨b25_, rfl, h19⟩
    cases m with
    | zero => exact (onone h19).elim
    | succ m =>
      refine Wc.seq ?_
      refine Wc.seq ?_
      refine Wc.region [] [] [0, 3, 7] [] [] ⟨[(0, (.v (.str f24_), [])), (3, (.v (.int .i64 b25_), [])), (7, (.v (.bool (decide (b25_ < (f24_.size : Int)))), []))], [], []⟩ _ (by kernel_rfl) .nil ?_
      rcases oif h19 with ⟨h20, h19⟩ | ⟨h20, h19⟩
      · refine Wc.condT h20 (by kernel_rfl) ?_
        refine Wc.fix (st' := ⟨[(0, (.v (.str f24_), [])), (3, (.v (.int .i64 b25_), []))], [], []⟩) [] [0, 3] [] [] (by kernel_rfl) ?_
        refine Wc.skip ?_
        refine Wc.seq ?_
        refine Wc.block ?_
        refine Wc.seq ?_
        obtain ⟨h21, h19⟩ := oguard h19
        obtain ⟨g26_, h22, h19⟩ := obind h19
        refine Wc.region [{}, {}, {}, { r := some (.v (.bool g26_) []) }] [] [0, 3, 14] [] [] ⟨[(0, (.v (.str f24_), [])), (3, (.v (.int .i64 b25_), [])), (14, (.v (.bool (!g26_)), []))], [], []⟩ _ (by kernel_rfl) (.cons h21 (.cons (cspec_l05Small h22) .nil)) ?_
        rcases oif h19 with ⟨h23, h19⟩ | ⟨h23, h19⟩
        · refine Wc.condT h23 (by kernel_rfl) ?_
          refine Wc.seq ?_
          refine Wc.region [] [] [2] [] [] ⟨[(2, (.v (.bool false), []))], [], []⟩ _ (by kernel_rfl) .nil ?_
          refine Wc.ret ?_
          obtain rfl := Option.some.inj h19
          obtain rfl := Option.some.inj h
          exact ⟨.inl rfl, by kernel_rfl, by kernel_rfl⟩
        · refine Wc.condF h23 (by kernel_rfl) ?_
          refine Wc.fix (st' := ⟨[(0, (.v (.str f24_), [])), (3, (.v (.int .i64 b25_), []))], [], []⟩) [] [0, 3] [] [] (by kernel_rfl) ?_
          refine Wc.skip ?_
          refine Wc.region [] [] [0, 3] [] [] ⟨[(0, (.v (.str f24_), [])), (3, (.v (.int .i64 (wr.i64 (b25_ + 1))), []))], [], []⟩ _ (by kernel_rfl) .nil ?_
          exact ⟨_, Nat.lt_succ_self _, _, rfl, h19⟩
      · refine Wc.condF h20 (by kernel_rfl) ?_
        refine Wc.fix (st' := ⟨[(0, (.v (.str f24_), []))], [], []⟩) [] [0] [] [] (by kernel_rfl) ?_
        refine Wc.exit ?_
        obtain rfl := Option.some.inj h19
        exact ⟨rfl, rfl⟩
  · rintro st ⟨rfl, rfl⟩
    refine Wc.seq ?_
    obtain ⟨g27_, h24, h⟩ := obind h
    refine Wc.region [{}, {}, { r := some (.v (.bool g27_) []) }] [] [2] [] [] ⟨[(2, (.v (.bool g27_), []))], [], []⟩ _ (by kernel_rfl) (.cons (cspec_l01In h24) .nil) ?_
    refine Wc.ret ?_
    obtain rfl := Option.some.inj h
    exact ⟨.inl rfl, by kernel_rfl, by kernel_rfl⟩

def pspec_Control_J1 (k : Nat) (f28_ : ByteArray) (g29_ : Bool) : Option Bool :=
  if g29_ = true then
    some true
  else
    if (sEq f28_ (bs [61, 47, 50])) = true then
      if (sEq f28_ (bs [61, 47, 50])) = true then
        some true
      else
        some false
    else
      if (sEq f28_ (bs [92, 61, 47, 50])) = true then
        if (sEq f28_ (bs [92, 61, 47, 50])) = true then
          some true
        else
          some false
      else
        if (sEq f28_ (bs [61, 61, 47, 50])) = true then
          if (sEq f28_ (bs [61, 61, 47, 50])) = true then
            some true
          else
            some false
        else
          if (sEq f28_ (bs [105, 115, 47, 50])) = true then
            if (sEq f28_ (bs [105, 115, 47, 50])) = true then
              some true
            else
              some false
          else
            if (sEq f28_ (bs [60, 47, 50])) = true then
              if (sEq f28_ (bs [60, 47, 50])) = true then
                some true
              else
                some false
            else
              if (sEq f28_ (bs [61, 58, 61, 47, 50])) = true then
                if (sEq f28_ (bs [61, 58, 61, 47, 50])) = true then
                  some true
                else
                  some false
              else
                if (sEq f28_ (bs [118, 97, 114, 47, 49])) = true then
                  if (sEq f28_ (bs [118, 97, 114, 47, 49])) = true then
                    some true
                  else
                    some false
                else
                  if (sEq f28_ (bs [97, 116, 111, 109, 47, 49])) = true then
                    if (sEq f28_ (bs [97, 116, 111, 109, 47, 49])) = true then
                      some true
                    else
                      some false
                  else
                    if (sEq f28_ (bs [119, 114, 105, 116, 101, 47, 49])) = true then
                      if (sEq f28_ (bs [119, 114, 105, 116, 101, 47, 49])) = true then
                        some true
                      else
                        some false
                    else
                      if (sEq f28_ (bs [97, 115, 115, 101, 114, 116, 122, 47, 49])) = true then
                        if (sEq f28_ (bs [97, 115, 115, 101, 114, 116, 122, 47, 49])) = true then
                          some true
                        else
                          some false
                      else
                        if (sEq f28_ (bs [114, 101, 116, 114, 97, 99, 116, 47, 49])) = true then
                          if (sEq f28_ (bs [114, 101, 116, 114, 97, 99, 116, 47, 49])) = true then
                            some true
                          else
                            some false
                        else
                          if (sEq f28_ (bs [58, 45, 47, 50])) = true then
                            if (sEq f28_ (bs [58, 45, 47, 50])) = true then
                              some true
                            else
                              some false
                          else
                            if (sEq f28_ (bs [58, 45, 47, 49])) = true then
                              if (sEq f28_ (bs [58, 45, 47, 49])) = true then
                                some true
                              else
                                some false
                            else
                              if (sEq f28_ (bs [45, 45, 62, 47, 50])) = true then
                                some true
                              else
                                some false
/-- spec.Control -/
def pspec_Control (k : Nat) (f28_ : ByteArray) : Option Bool :=
  if (sEq f28_ (bs [116, 114, 117, 101, 47, 48])) = true then
    pspec_Control_J1 k f28_ (sEq f28_ (bs [116, 114, 117, 101, 47, 48]))
  else
    if (sEq f28_ (bs [102, 97, 105, 108, 47, 48])) = true then
      pspec_Control_J1 k f28_ (sEq f28_ (bs [102, 97, 105, 108, 47, 48]))
    else
      if (sEq f28_ (bs [33, 47, 48])) = true then
        pspec_Control_J1 k f28_ (sEq f28_ (bs [33, 47, 48]))
      else
        if (sEq f28_ (bs [44, 47, 50])) = true then
          pspec_Control_J1 k f28_ (sEq f28_ (bs [44, 47, 50]))
        else
          if (sEq f28_ (bs [59, 47, 50])) = true then
            pspec_Control_J1 k f28_ (sEq f28_ (bs [59, 47, 50]))
          else
            if (sEq f28_ (bs [45, 62, 47, 50])) = true then
              pspec_Control_J1 k f28_ (sEq f28_ (bs [45, 62, 47, 50]))
            else
              if (sEq f28_ (bs [92, 43, 47, 49])) = true then
                pspec_Control_J1 k f28_ (sEq f28_ (bs [92, 43, 47, 49]))
              else
                if (sEq f28_ (bs [99, 97, 108, 108, 47, 49])) = true then
                  pspec_Control_J1 k f28_ (sEq f28_ (bs [99, 97, 108, 108, 47, 49]))
                else
                  if (sEq f28_ (bs [99, 97, 108, 108, 47, 50])) = true then
                    pspec_Control_J1 k f28_ (sEq f28_ (bs [99, 97, 108, 108, 47, 50]))
                  else
                    if (sEq f28_ (bs [99, 97, 108, 108, 47, 51])) = true then
                      pspec_Control_J1 k f28_ (sEq f28_ (bs [99, 97, 108, 108, 47, 51]))
                    else
                      if (sEq f28_ (bs [99, 97, 116, 99, 104, 47, 51])) = true then
                        pspec_Control_J1 k f28_ (sEq f28_ (bs [99, 97, 116, 99, 104, 47, 51]))
                      else
                        pspec_Control_J1 k f28_ (sEq f28_ (bs [116, 104, 114, 111, 119, 47, 49]))
set_option maxHeartbeats 4000000 in
theorem cspec_Control {k : Nat} {f28_ : ByteArray} {r : Bool} (h : pspec_Control k f28_ = some r) : FnO Try.prog 95 [.v (.str f28_) []] (.v (.bool r) []) [] := by
  refine FnO.of Try.func95 (rfl : Try.f95.body = some _) (Nat.le_of_ble_eq_true (by kernel_rfl)) (Nat.le_of_ble_eq_true (by kernel_rfl)) ?_
  intro w0 X0 Fin pv0 pb
  unfold pspec_Control at h
  refine Wc.seq ?_
  refine Wc.region [] [] [0] [] [] ⟨[(0, (.v (.str f28_), []))], [], []⟩ _ (by kernel_rfl) .nil ?_
  refine Wc.seq ?_
  refine Wc.seq ?_
  refine Wc.region [] [] [3] [] [] ⟨[(3, (.v (.str f28_), []))], [], []⟩ _ (by kernel_rfl) .nil ?_
  refine Wc.block ?_
  refine Wc.seqJ (fun st => ∃ (g29_ : Bool), st = ⟨[(3, (.v (.str f28_), [])), (4, (.v (.bool g29_), []))], [], []⟩ ∧ pspec_Control_J1 k f28_ g29_ = some r) ?_ ?_
  · refine Wc.seq ?_
    refine Wc.region [] [] [3, 4] [] [] ⟨[(3, (.v (.str f28_), [])), (4, (.v (.bool (sEq f28_ (bs [116, 114, 117, 101, 47, 48]))), []))], [], []⟩ _ (by kernel_rfl) .nil ?_
    rcases oif h with ⟨h53, h⟩ | ⟨h53, h⟩
    · refine Wc.condT h53 (by kernel_rfl) ?_
      refine Wc.skip ?_
      exact ⟨_, rfl, h⟩
    · refine Wc.condF h53 (by kernel_rfl) ?_
      refine Wc.seq ?_
      refine Wc.region [] [] [3, 4] [] [] ⟨[(3, (.v (.str f28_), [])), (4, (.v (.bool (sEq f28_ (bs [102, 97, 105, 108, 47, 48]))), []))], [], []⟩ _ (by kernel_rfl) .nil ?_
      rcases oif h with ⟨h54, h⟩ | ⟨h54, h⟩
      · refine Wc.condT h54 (by kernel_rfl) ?_
        refine Wc.skip ?_
        exact ⟨_, rfl, h⟩
      · refine Wc.condF h54 (by kernel_rfl) ?_
        refine Wc.seq ?_
        refine Wc.region [] [] [3, 4] [] [] ⟨[(3, (.v (.str f28_), [])), (4, (.v (.bool (sEq f28_ (bs [33, 47, 48]))), []))], [], []⟩ _ (by kernel_rfl) .nil ?_
        rcases oif h with ⟨h55, h⟩ | ⟨h55, h⟩
        · refine Wc.condT h55 (by kernel_rfl) ?_
          refine Wc.skip ?_
          exact ⟨_, rfl, h⟩
        · refine Wc.condF h55 (by kernel_rfl) ?_
          refine Wc.seq ?_
          refine Wc.region [] [] [3, 4] [] [] ⟨[(3, (.v (.str f28_), [])), (4, (.v (.bool (sEq f28_ (bs [44, 47, 50]))), []))], [], []⟩ _ (by kernel_rfl) .nil ?_
          rcases oif h with ⟨h56, h⟩ | ⟨h56, h⟩
          · refine Wc.condT h56 (by kernel_rfl) ?_
            refine Wc.skip ?_
            exact ⟨_, rfl, h⟩
          · refine Wc.condF h56 (by kernel_rfl) ?_
            refine Wc.seq ?_
            refine Wc.region [] [] [3, 4] [] [] ⟨[(3, (.v (.str f28_), [])), (4, (.v (.bool (sEq f28_ (bs [59, 47, 50]))), []))], [], []⟩ _ (by kernel_rfl) .nil ?_
            rcases oif h with ⟨h57, h⟩ | ⟨h57, h⟩
            · refine Wc.condT h57 (by kernel_rfl) ?_
              refine Wc.skip ?_
              exact ⟨_, rfl, h⟩
            · refine Wc.condF h57 (by kernel_rfl) ?_
              refine Wc.seq ?_
              refine Wc.region [] [] [3, 4] [] [] ⟨[(3, (.v (.str f28_), [])), (4, (.v (.bool (sEq f28_ (bs [45, 62, 47, 50]))), []))], [], []⟩ _ (by kernel_rfl) .nil ?_
              rcases oif h with ⟨h58, h⟩ | ⟨h58, h⟩
              · refine Wc.condT h58 (by kernel_rfl) ?_
                refine Wc.skip ?_
                exact ⟨_, rfl, h⟩
              · refine Wc.condF h58 (by kernel_rfl) ?_
                refine Wc.seq ?_
                refine Wc.region [] [] [3, 4] [] [] ⟨[(3, (.v (.str f28_), [])), (4, (.v (.bool (sEq f28_ (bs [92, 43, 47, 49]))), []))], [], []⟩ _ (by kernel_rfl) .nil ?_
                rcases oif h with ⟨h59, h⟩ | ⟨h59, h⟩
                · refine Wc.condT h59 (by kernel_rfl) ?_
                  refine Wc.skip ?_
                  exact ⟨_, rfl, h⟩
                · refine Wc.condF h59 (by kernel_rfl) ?_
                  refine Wc.seq ?_
                  refine Wc.region [] [] [3, 4] [] [] ⟨[(3, (.v (.str f28_), [])), (4, (.v (.bool (sEq f28_ (bs [99, 97, 108, 108, 47, 49]))), []))], [], []⟩ _ (by kernel_rfl) .nil ?_
                  rcases oif h with ⟨h60, h⟩ | ⟨h60, h⟩
                  · refine Wc.condT h60 (by kernel_rfl) ?_
                    refine Wc.skip ?_
                    exact ⟨_, rfl, h⟩
                  · refine Wc.condF h60 (by kernel_rfl) ?_
                    refine Wc.seq ?_
                    refine Wc.region [] [] [3, 4] [] [] ⟨[(3, (.v (.str f28_), [])), (4, (.v (.bool (sEq f28_ (bs [99, 97, 108, 108, 47, 50]))), []))], [], []⟩ _ (by kernel_rfl) .nil ?_
                    rcases oif h with ⟨h61, h⟩ | ⟨h61, h⟩
                    · refine Wc.condT h61 (by kernel_rfl) ?_
                      refine Wc.skip ?_
                      exact ⟨_, rfl, h⟩
                    · refine Wc.condF h61 (by kernel_rfl) ?_
                      refine Wc.seq ?_
                      refine Wc.region [] [] [3, 4] [] [] ⟨[(3, (.v (.str f28_), [])), (4, (.v (.bool (sEq f28_ (bs [99, 97, 108, 108, 47, 51]))), []))], [], []⟩ _ (by kernel_rfl) .nil ?_
                      rcases oif h with ⟨h62, h⟩ | ⟨h62, h⟩
                      · refine Wc.condT h62 (by kernel_rfl) ?_
                        refine Wc.skip ?_
                        exact ⟨_, rfl, h⟩
                      · refine Wc.condF h62 (by kernel_rfl) ?_
                        refine Wc.seq ?_
                        refine Wc.region [] [] [3, 4] [] [] ⟨[(3, (.v (.str f28_), [])), (4, (.v (.bool (sEq f28_ (bs [99, 97, 116, 99, 104, 47, 51]))), []))], [], []⟩ _ (by kernel_rfl) .nil ?_
                        rcases oif h with ⟨h63, h⟩ | ⟨h63, h⟩
                        · refine Wc.condT h63 (by kernel_rfl) ?_
                          refine Wc.skip ?_
                          exact ⟨_, rfl, h⟩
                        · refine Wc.condF h63 (by kernel_rfl) ?_
                          refine Wc.region [] [] [3, 4] [] [] ⟨[(3, (.v (.str f28_), [])), (4, (.v (.bool (sEq f28_ (bs [116, 104, 114, 111, 119, 47, 49]))), []))], [], []⟩ _ (by kernel_rfl) .nil ?_
                          exact ⟨_, rfl, h⟩
  · rintro st ⟨g29_, rfl, h⟩
    rcases oif h with ⟨h25, h⟩ | ⟨h25, h⟩
    · refine Wc.condT h25 (by kernel_rfl) ?_
      refine Wc.seq ?_
      refine Wc.region [] [] [2] [] [] ⟨[(2, (.v (.bool true), []))], [], []⟩ _ (by kernel_rfl) .nil ?_
      refine Wc.ret ?_
      obtain rfl := Option.some.inj h
      exact ⟨.inl rfl, by kernel_rfl, by kernel_rfl⟩
    · refine Wc.condF h25 (by kernel_rfl) ?_
      refine Wc.seq ?_
      refine Wc.seq ?_
      refine Wc.region [] [] [3, 17] [] [] ⟨[(3, (.v (.str f28_), [])), (17, (.v (.bool (sEq f28_ (bs [61, 47, 50]))), []))], [], []⟩ _ (by kernel_rfl) .nil ?_
      rcases oif h with ⟨h26, h⟩ | ⟨h26, h⟩
      · refine Wc.condT h26 (by kernel_rfl) ?_
        refine Wc.fix (st' := ⟨[(17, (.v (.bool (sEq f28_ (bs [61, 47, 50]))), []))], [], []⟩) [] [17] [] [] (by kernel_rfl) ?_
        refine Wc.skip ?_
        rcases oif h with ⟨h27, h⟩ | ⟨h27, h⟩
        · refine Wc.condT h27 (by kernel_rfl) ?_
          refine Wc.seq ?_
          refine Wc.region [] [] [2] [] [] ⟨[(2, (.v (.bool true), []))], [], []⟩ _ (by kernel_rfl) .nil ?_
          refine Wc.ret ?_
          obtain rfl := Option.some.inj h
          exact ⟨.inl rfl, by kernel_rfl, by kernel_rfl⟩
        · refine Wc.condF h27 (by kernel_rfl) ?_
          refine Wc.fix (st' := ⟨[], [], []⟩) [] [] [] [] (by kernel_rfl) ?_
          refine Wc.skip ?_
          refine Wc.seq ?_
          refine Wc.region [] [] [2] [] [] ⟨[(2, (.v (.bool false), []))], [], []⟩ _ (by kernel_rfl) .nil ?_
          refine Wc.ret ?_
          obtain rfl := Option.some.inj h
          exact ⟨.inl rfl, by kernel_rfl, by kernel_rfl⟩
      · refine Wc.condF h26 (by kernel_rfl) ?_
        refine Wc.seq ?_
        refine Wc.region [] [] [3, 17] [] [] ⟨[(3, (.v (.str f28_), [])), (17, (.v (.bool (sEq f28_ (bs [92, 61, 47, 50]))), []))], [], []⟩ _ (by kernel_rfl) .nil ?_
        rcases oif h with ⟨h28, h⟩ | ⟨h28, h⟩
        · refine Wc.condT h28 (by kernel_rfl) ?_
          refine Wc.fix (st' := ⟨[(17, (.v (.bool (sEq f28_ (bs [92, 61, 47, 50]))), []))], [], []⟩) [] [17] [] [] (by kernel_rfl) ?_
          refine Wc.skip ?_
          rcases oif h with ⟨h29, h⟩ | ⟨h29, h⟩
          · refine Wc.condT h29 (by kernel_rfl) ?_
            refine Wc.seq ?_
            refine Wc.region [] [] [2] [] [] ⟨[(2, (.v (.bool true), []))], [], []⟩ _ (by kernel_rfl) .nil ?_
            refine Wc.ret ?_
            obtain rfl := Option.some.inj h
            exact ⟨.inl rfl, by kernel_rfl, by kernel_rfl⟩
          · refine Wc.condF h29 (by kernel_rfl) ?_
            refine Wc.fix (st' := ⟨[], [], []⟩) [] [] [] [] (by kernel_rfl) ?_
            refine Wc.skip ?_
            refine Wc.seq ?_
            refine Wc.region [] [] [2] [] [] ⟨[(2, (.v (.bool false), []))], [], []⟩ _ (by kernel_rfl) .nil ?_
            refine Wc.ret ?_
            obtain rfl := Option.some.inj h
            exact ⟨.inl rfl, by kernel_rfl, by kernel_rfl⟩
        · refine Wc.condF h28 (by kernel_rfl) ?_
          refine Wc.seq ?_
          refine Wc.region [] [] [3, 17] [] [] ⟨[(3, (.v (.str f28_), [])), (17, (.v (.bool (sEq f28_ (bs [61, 61, 47, 50]))), []))], [], []⟩ _ (by kernel_rfl) .nil ?_
          rcases oif h with ⟨h30, h⟩ | ⟨h30, h⟩
          · refine Wc.condT h30 (by kernel_rfl) ?_
            refine Wc.fix (st' := ⟨[(17, (.v (.bool (sEq f28_ (bs [61, 61, 47, 50]))), []))], [], []⟩) [] [17] [] [] (by kernel_rfl) ?_
            refine Wc.skip ?_
            rcases oif h with ⟨h31, h⟩ | ⟨h31, h⟩
            · refine Wc.condT h31 (by kernel_rfl) ?_
              refine Wc.seq ?_
              refine Wc.region [] [] [2] [] [] ⟨[(2, (.v (.bool true), []))], [], []⟩ _ (by kernel_rfl) .nil ?_
              refine Wc.ret ?_
              obtain rfl := Option.some.inj h
              exact ⟨.inl rfl, by kernel_rfl, by kernel_rfl⟩
            · refine Wc.condF h31 (by kernel_rfl) ?_
              refine Wc.fix (st' := ⟨[], [], []⟩) [] [] [] [] (by kernel_rfl) ?_
              refine Wc.skip ?_
              refine Wc.seq ?_
              refine Wc.region [] [] [2] [] [] ⟨[(2, (.v (.bool false), []))], [], []⟩ _ (by kernel_rfl) .nil ?_
              refine Wc.ret ?_
              obtain rfl := Option.some.inj h
              exact ⟨.inl rfl, by kernel_rfl, by kernel_rfl⟩
          · refine Wc.condF h30 (by kernel_rfl) ?_
            refine Wc.seq ?_
            refine Wc.region [] [] [3, 17] [] [] ⟨[(3, (.v (.str f28_), [])), (17, (.v (.bool (sEq f28_ (bs [105, 115, 47, 50]))), []))], [], []⟩ _ (by kernel_rfl) .nil ?_
            rcases oif h with ⟨h32, h⟩ | ⟨h32, h⟩
            · refine Wc.condT h32 (by kernel_rfl) ?_
              refine Wc.fix (st' := ⟨[(17, (.v (.bool (sEq f28_ (bs [105, 115, 47, 50]))), []))], [], []⟩) [] [17] [] [] (by kernel_rfl) ?_
              refine Wc.skip ?_
              rcases oif h with ⟨h33, h⟩ | ⟨h33, h⟩
              · refine Wc.condT h33 (by kernel_rfl) ?_
                refine Wc.seq ?_
                refine Wc.region [] [] [2] [] [] ⟨[(2, (.v (.bool true), []))], [], []⟩ _ (by kernel_rfl) .nil ?_
                refine Wc.ret ?_
                obtain rfl := Option.some.inj h
                exact ⟨.inl rfl, by kernel_rfl, by kernel_rfl⟩
              · refine Wc.condF h33 (by kernel_rfl) ?_
                refine Wc.fix (st' := ⟨[], [], []⟩) [] [] [] [] (by kernel_rfl) ?_
                refine Wc.skip ?_
                refine Wc.seq ?_
                refine Wc.region [] [] [2] [] [] ⟨[(2, (.v (.bool false), []))], [], []⟩ _ (by kernel_rfl) .nil ?_
                refine Wc.ret ?_
                obtain rfl := Option.some.inj h
                exact ⟨.inl rfl, by kernel_rfl, by kernel_rfl⟩
            · refine Wc.condF h32 (by kernel_rfl) ?_
              refine Wc.seq ?_
              refine Wc.region [] [] [3, 17] [] [] ⟨[(3, (.v (.str f28_), [])), (17, (.v (.bool (sEq f28_ (bs [60, 47, 50]))), []))], [], []⟩ _ (by kernel_rfl) .nil ?_
              rcases oif h with ⟨h34, h⟩ | ⟨h34, h⟩
              · refine Wc.condT h34 (by kernel_rfl) ?_
                refine Wc.fix (st' := ⟨[(17, (.v (.bool (sEq f28_ (bs [60, 47, 50]))), []))], [], []⟩) [] [17] [] [] (by kernel_rfl) ?_
                refine Wc.skip ?_
                rcases oif h with ⟨h35, h⟩ | ⟨h35, h⟩
                · refine Wc.condT h35 (by kernel_rfl) ?_
                  refine Wc.seq ?_
                  refine Wc.region [] [] [2] [] [] ⟨[(2, (.v (.bool true), []))], [], []⟩ _ (by kernel_rfl) .nil ?_
                  refine Wc.ret ?_
                  obtain rfl := Option.some.inj h
                  exact ⟨.inl rfl, by kernel_rfl, by kernel_rfl⟩
                · refine Wc.condF h35 (by kernel_rfl) ?_
                  refine Wc.fix (st' := ⟨[], [], []⟩) [] [] [] [] (by kernel_rfl) ?_
                  refine Wc.skip ?_
                  refine Wc.seq ?_
                  refine Wc.region [] [] [2] [] [] ⟨[(2, (.v (.bool false), []))], [], []⟩ _ (by kernel_rfl) .nil ?_
                  refine Wc.ret ?_
                  obtain rfl := Option.some.inj h
                  exact ⟨.inl rfl, by kernel_rfl, by kernel_rfl⟩
              · refine Wc.condF h34 (by kernel_rfl) ?_
                refine Wc.seq ?_
                refine Wc.region [] [] [3, 17] [] [] ⟨[(3, (.v (.str f28_), [])), (17, (.v (.bool (sEq f28_ (bs [61, 58, 61, 47, 50]))), []))], [], []⟩ _ (by kernel_rfl) .nil ?_
                rcases oif h with ⟨h36, h⟩ | ⟨h36, h⟩
                · refine Wc.condT h36 (by kernel_rfl) ?_
                  refine Wc.fix (st' := ⟨[(17, (.v (.bool (sEq f28_ (bs [61, 58, 61, 47, 50]))), []))], [], []⟩) [] [17] [] [] (by kernel_rfl) ?_
                  refine Wc.skip ?_
                  rcases oif h with ⟨h37, h⟩ | ⟨h37, h⟩
                  · refine Wc.condT h37 (by kernel_rfl) ?_
                    refine Wc.seq ?_
                    refine Wc.region [] [] [2] [] [] ⟨[(2, (.v (.bool true), []))], [], []⟩ _ (by kernel_rfl) .nil ?_
                    refine Wc.ret ?_
                    obtain rfl := Option.some.inj h
                    exact ⟨.inl rfl, by kernel_rfl, by kernel_rfl⟩
                  · refine Wc.condF h37 (by kernel_rfl) ?_
                    refine Wc.fix (st' := ⟨[], [], []⟩) [] [] [] [] (by kernel_rfl) ?_
                    refine Wc.skip ?_
                    refine Wc.seq ?_
                    refine Wc.region [] [] [2] [] [] ⟨[(2, (.v (.bool false), []))], [], []⟩ _ (by kernel_rfl) .nil ?_
                    refine Wc.ret ?_
                    obtain rfl := Option.some.inj h
                    exact ⟨.inl rfl, by kernel_rfl, by kernel_rfl⟩
                · refine Wc.condF h36 (by kernel_rfl) ?_
                  refine Wc.seq ?_
                  refine Wc.region [] [] [3, 17] [] [] ⟨[(3, (.v (.str f28_), [])), (17, (.v (.bool (sEq f28_ (bs [118, 97, 114, 47, 49]))), []))], [], []⟩ _ (by kernel_rfl) .nil ?_
                  rcases oif h with ⟨h38, h⟩ | ⟨h38, h⟩
                  · refine Wc.condT h38 (by kernel_rfl) ?_
                    refine Wc.fix (st' := ⟨[(17, (.v (.bool (sEq f28_ (bs [118, 97, 114, 47, 49]))), []))], [], []⟩) [] [17] [] [] (by kernel_rfl) ?_
                    refine Wc.skip ?_
                    rcases oif h with ⟨h39, h⟩ | ⟨h39, h⟩
                    · refine Wc.condT h39 (by kernel_rfl) ?_
                      refine Wc.seq ?_
                      refine Wc.region [] [] [2] [] [] ⟨[(2, (.v (.bool true), []))], [], []⟩ _ (by kernel_rfl) .nil ?_
                      refine Wc.ret ?_
                      obtain rfl := Option.some.inj h
                      exact ⟨.inl rfl, by kernel_rfl, by kernel_rfl⟩
                    · refine Wc.condF h39 (by kernel_rfl) ?_
                      refine Wc.fix (st' := ⟨[], [], []⟩) [] [] [] [] (by kernel_rfl) ?_
                      refine Wc.skip ?_
                      refine Wc.seq ?_
                      refine Wc.region [] [] [2] [] [] ⟨[(2, (.v (.bool false), []))], [], []⟩ _ (by kernel_rfl) .nil ?_
                      refine Wc.ret ?_
                      obtain rfl := Option.some.inj h
                      exact ⟨.inl rfl, by kernel_rfl, by kernel_rfl⟩
                  · refine Wc.condF h38 (by kernel_rfl) ?_
                    refine Wc.seq ?_
                    refine Wc.region [] [] [3, 17] [] [] ⟨[(3, (.v (.str f28_), [])), (17, (.v (.bool (sEq f28_ (bs [97, 116, 111, 109, 47, 49]))), []))], [], []⟩ _ (by kernel_rfl) .nil ?_
                    rcases oif h with ⟨h40, h⟩ | ⟨h40, h⟩
                    · refine Wc.condT h40 (by kernel_rfl) ?_
                      refine Wc.fix (st' := ⟨[(17, (.v (.bool (sEq f28_ (bs [97, 116, 111, 109, 47, 49]))), []))], [], []⟩) [] [17] [] [] (by kernel_rfl) ?_
                      refine Wc.skip ?_
                      rcases oif h with ⟨h41, h⟩ | ⟨h41, h⟩
                      · refine Wc.condT h41 (by kernel_rfl) ?_
                        refine Wc.seq ?_
                        refine Wc.region [] [] [2] [] [] ⟨[(2, (.v (.bool true), []))], [], []⟩ _ (by kernel_rfl) .nil ?_
                        refine Wc.ret ?_
                        obtain rfl := Option.some.inj h
                        exact ⟨.inl rfl, by kernel_rfl, by kernel_rfl⟩
                      · refine Wc.condF h41 (by kernel_rfl) ?_
                        refine Wc.fix (st' := ⟨[], [], []⟩) [] [] [] [] (by kernel_rfl) ?_
                        refine Wc.skip ?_
                        refine Wc.seq ?_
                        refine Wc.region [] [] [2] [] [] ⟨[(2, (.v (.bool false), []))], [], []⟩ _ (by kernel_rfl) .nil ?_
                        refine Wc.ret ?_
                        obtain rfl := Option.some.inj h
                        exact ⟨.inl rfl, by kernel_rfl, by kernel_rfl⟩
                    · refine Wc.condF h40 (by kernel_rfl) ?_
                      refine Wc.seq ?_
                      refine Wc.region [] [] [3, 17] [] [] ⟨[(3, (.v (.str f28_), [])), (17, (.v (.bool (sEq f28_ (bs [119, 114, 105, 116, 101, 47, 49]))), []))], [], []⟩ _ (by kernel_rfl) .nil ?_
                      rcases oif h with ⟨h42, h⟩ | ⟨h42, h⟩
                      · refine Wc.condT h42 (by kernel_rfl) ?_
                        refine Wc.fix (st' := ⟨[(17, (.v (.bool (sEq f28_ (bs [119, 114, 105, 116, 101, 47, 49]))), []))], [], []⟩) [] [17] [] [] (by kernel_rfl) ?_
                        refine Wc.skip ?_
                        rcases oif h with ⟨h43, h⟩ | ⟨h43, h⟩
                        · refine Wc.condT h43 (by kernel_rfl) ?_
                          refine Wc.seq ?_
                          refine Wc.region [] [] [2] [] [] ⟨[(2, (.v (.bool true), []))], [], []⟩ _ (by kernel_rfl) .nil ?_
                          refine Wc.ret ?_
                          obtain rfl := Option.some.inj h
                          exact ⟨.inl rfl, by kernel_rfl, by kernel_rfl⟩
                        · refine Wc.condF h43 (by kernel_rfl) ?_
                          refine Wc.fix (st' := ⟨[], [], []⟩) [] [] [] [] (by kernel_rfl) ?_
                          refine Wc.skip ?_
                          refine Wc.seq ?_
                          refine Wc.region [] [] [2] [] [] ⟨[(2, (.v (.bool false), []))], [], []⟩ _ (by kernel_rfl) .nil ?_
                          refine Wc.ret ?_
                          obtain rfl := Option.some.inj h
                          exact ⟨.inl rfl, by kernel_rfl, by kernel_rfl⟩
                      · refine Wc.condF h42 (by kernel_rfl) ?_
                        refine Wc.seq ?_
                        refine Wc.region [] [] [3, 17] [] [] ⟨[(3, (.v (.str f28_), [])), (17, (.v (.bool (sEq f28_ (bs [97, 115, 115, 101, 114, 116, 122, 47, 49]))), []))], [], []⟩ _ (by kernel_rfl) .nil ?_
                        rcases oif h with ⟨h44, h⟩ | ⟨h44, h⟩
                        · refine Wc.condT h44 (by kernel_rfl) ?_
                          refine Wc.fix (st' := ⟨[(17, (.v (.bool (sEq f28_ (bs [97, 115, 115, 101, 114, 116, 122, 47, 49]))), []))], [], []⟩) [] [17] [] [] (by kernel_rfl) ?_
                          refine Wc.skip ?_
                          rcases oif h with ⟨h45, h⟩ | ⟨h45, h⟩
                          · refine Wc.condT h45 (by kernel_rfl) ?_
                            refine Wc.seq ?_
                            refine Wc.region [] [] [2] [] [] ⟨[(2, (.v (.bool true), []))], [], []⟩ _ (by kernel_rfl) .nil ?_
                            refine Wc.ret ?_
                            obtain rfl := Option.some.inj h
                            exact ⟨.inl rfl, by kernel_rfl, by kernel_rfl⟩
                          · refine Wc.condF h45 (by kernel_rfl) ?_
                            refine Wc.fix (st' := ⟨[], [], []⟩) [] [] [] [] (by kernel_rfl) ?_
                            refine Wc.skip ?_
                            refine Wc.seq ?_
                            refine Wc.region [] [] [2] [] [] ⟨[(2, (.v (.bool false), []))], [], []⟩ _ (by kernel_rfl) .nil ?_
                            refine Wc.ret ?_
                            obtain rfl := Option.some.inj h
                            exact ⟨.inl rfl, by kernel_rfl, by kernel_rfl⟩
                        · refine Wc.condF h44 (by kernel_rfl) ?_
                          refine Wc.seq ?_
                          refine Wc.region [] [] [3, 17] [] [] ⟨[(3, (.v (.str f28_), [])), (17, (.v (.bool (sEq f28_ (bs [114, 101, 116, 114, 97, 99, 116, 47, 49]))), []))], [], []⟩ _ (by kernel_rfl) .nil ?_
                          rcases oif h with ⟨h46, h⟩ | ⟨h46, h⟩
                          · refine Wc.condT h46 (by kernel_rfl) ?_
                            refine Wc.fix (st' := ⟨[(17, (.v (.bool (sEq f28_ (bs [114, 101, 116, 114, 97, 99, 116, 47, 49]))), []))], [], []⟩) [] [17] [] [] (by kernel_rfl) ?_
                            refine Wc.skip ?_
                            rcases oif h with ⟨h47, h⟩ | ⟨h47, h⟩
                            · refine Wc.condT h47 (by kernel_rfl) ?_
                              refine Wc.seq ?_
                              refine Wc.region [] [] [2] [] [] ⟨[(2, (.v (.bool true), []))], [], []⟩ _ (by kernel_rfl) .nil ?_
                              refine Wc.ret ?_
                              obtain rfl := Option.some.inj h
                              exact ⟨.inl rfl, by kernel_rfl, by kernel_rfl⟩
                            · refine Wc.condF h47 (by kernel_rfl) ?_
                              refine Wc.fix (st' := ⟨[], [], []⟩) [] [] [] [] (by kernel_rfl) ?_
                              refine Wc.skip ?_
                              refine Wc.seq ?_
                              refine Wc.region [] [] [2] [] [] ⟨[(2, (.v (.bool false), []))], [], []⟩ _ (by kernel_rfl) .nil ?_
                              refine Wc.ret ?_
                              obtain rfl := Option.some.inj h
                              exact ⟨.inl rfl, by kernel_rfl, by kernel_rfl⟩
                          · refine Wc.condF h46 (by kernel_rfl) ?_
                            refine Wc.seq ?_
                            refine Wc.region [] [] [3, 17] [] [] ⟨[(3, (.v (.str f28_), [])), (17, (.v (.bool (sEq f28_ (bs [58, 45, 47, 50]))), []))], [], []⟩ _ (by kernel_rfl) .nil ?_
                            rcases oif h with ⟨h48, h⟩ | ⟨h48, h⟩
                            · refine Wc.condT h48 (by kernel_rfl) ?_
                              refine Wc.fix (st' := ⟨[(17, (.v (.bool (sEq f28_ (bs [58, 45, 47, 50]))), []))], [], []⟩) [] [17] [] [] (by kernel_rfl) ?_
                              refine Wc.skip ?_
                              rcases oif h with ⟨h49, h⟩ | ⟨h49, h⟩
                              · refine Wc.condT h49 (by kernel_rfl) ?_
                                refine Wc.seq ?_
                                refine Wc.region [] [] [2] [] [] ⟨[(2, (.v (.bool true), []))], [], []⟩ _ (by kernel_rfl) .nil ?_
                                refine Wc.ret ?_
                                obtain rfl := Option.some.inj h
                                exact ⟨.inl rfl, by kernel_rfl, by kernel_rfl⟩
                              · refine Wc.condF h49 (by kernel_rfl) ?_
                                refine Wc.fix (st' := ⟨[], [], []⟩) [] [] [] [] (by kernel_rfl) ?_
                                refine Wc.skip ?_
                                refine Wc.seq ?_
                                refine Wc.region [] [] [2] [] [] ⟨[(2, (.v (.bool false), []))], [], []⟩ _ (by kernel_rfl) .nil ?_
                                refine Wc.ret ?_
                                obtain rfl := Option.some.inj h
                                exact ⟨.inl rfl, by kernel_rfl, by kernel_rfl⟩
                            · refine Wc.condF h48 (by kernel_rfl) ?_
                              refine Wc.seq ?_
                              refine Wc.region [] [] [3, 17] [] [] ⟨[(3, (.v (.str f28_), [])), (17, (.v (.bool (sEq f28_ (bs [58, 45, 47, 49]))), []))], [], []⟩ _ (by kernel_rfl) .nil ?_
                              rcases oif h with ⟨h50, h⟩ | ⟨h50, h⟩
                              · refine Wc.condT h50 (by kernel_rfl) ?_
                                refine Wc.fix (st' := ⟨[(17, (.v (.bool (sEq f28_ (bs [58, 45, 47, 49]))), []))], [], []⟩) [] [17] [] [] (by kernel_rfl) ?_
                                refine Wc.skip ?_
                                rcases oif h with ⟨h51, h⟩ | ⟨h51, h⟩
                                · refine Wc.condT h51 (by kernel_rfl) ?_
                                  refine Wc.seq ?_
                                  refine Wc.region [] [] [2] [] [] ⟨[(2, (.v (.bool true), []))], [], []⟩ _ (by kernel_rfl) .nil ?_
                                  refine Wc.ret ?_
                                  obtain rfl := Option.some.inj h
                                  exact ⟨.inl rfl, by kernel_rfl, by kernel_rfl⟩
                                · refine Wc.condF h51 (by kernel_rfl) ?_
                                  refine Wc.fix (st' := ⟨[], [], []⟩) [] [] [] [] (by kernel_rfl) ?_
                                  refine Wc.skip ?_
                                  refine Wc.seq ?_
                                  refine Wc.region [] [] [2] [] [] ⟨[(2, (.v (.bool false), []))], [], []⟩ _ (by kernel_rfl) .nil ?_
                                  refine Wc.ret ?_
                                  obtain rfl := Option.some.inj h
                                  exact ⟨.inl rfl, by kernel_rfl, by kernel_rfl⟩
                              · refine Wc.condF h50 (by kernel_rfl) ?_
                                refine Wc.region [] [] [17] [] [] ⟨[(17, (.v (.bool (sEq f28_ (bs [45, 45, 62, 47, 50]))), []))], [], []⟩ _ (by kernel_rfl) .nil ?_
                                rcases oif h with ⟨h52, h⟩ | ⟨h52, h⟩
                                · refine Wc.condT h52 (by kernel_rfl) ?_
                                  refine Wc.seq ?_
                                  refine Wc.region [] [] [2] [] [] ⟨[(2, (.v (.bool true), []))], [], []⟩ _ (by kernel_rfl) .nil ?_
                                  refine Wc.ret ?_
                                  obtain rfl := Option.some.inj h
                                  exact ⟨.inl rfl, by kernel_rfl, by kernel_rfl⟩
                                · refine Wc.condF h52 (by kernel_rfl) ?_
                                  refine Wc.fix (st' := ⟨[], [], []⟩) [] [] [] [] (by kernel_rfl) ?_
                                  refine Wc.skip ?_
                                  refine Wc.seq ?_
                                  refine Wc.region [] [] [2] [] [] ⟨[(2, (.v (.bool false), []))], [], []⟩ _ (by kernel_rfl) .nil ?_
                                  refine Wc.ret ?_
                                  obtain rfl := Option.some.inj h
                                  exact ⟨.inl rfl, by kernel_rfl, by kernel_rfl⟩

/-- spec.l18Name -/
def pspec_l18Name (k : Nat) (f30_ : ByteArray) : Option Bool :=
  (pspec_l16Name k f30_).bind fun g31_ =>
  if g31_ = true then
    if (!(sEq f30_ (bs [100, 111]))) = true then
      if (!(sEq f30_ (bs [99, 97, 108, 108]))) = true then
        if sumOk f30_ (bs [47, 48]) then
          (pspec_Control k (f30_ ++ (bs [47, 48]))).bind fun g32_ =>
          if (!g32_) = true then
            if sumOk f30_ (bs [47, 50]) then
              (pspec_Control k (f30_ ++ (bs [47, 50]))).bind fun g33_ =>
              some (!g33_)
            else none
          else
            some false
        else none
      else
        some false
    else
      some false
  else
    some false
theorem cspec_l18Name {k : Nat} {f30_ : ByteArray} {r : Bool} (h : pspec_l18Name k f30_ = some r) : FnO Try.prog 69 [.v (.str f30_) []] (.v (.bool r) []) [] := by
  refine FnO.of Try.func69 (rfl : Try.f69.body = some _) (Nat.le_of_ble_eq_true (by kernel_rfl)) (Nat.le_of_ble_eq_true (by kernel_rfl)) ?_
  intro w0 X0 Fin pv0 pb
  unfold pspec_l18Name at h
  refine Wc.seq ?_
  refine Wc.region [] [] [0] [] [] ⟨[(0, (.v (.str f30_), []))], [], []⟩ _ (by kernel_rfl) .nil ?_
  refine Wc.seq ?_
  obtain ⟨g31_, h64, h⟩ := obind h
  rcases oif h with ⟨h65, h⟩ | ⟨h65, h⟩
  · rcases oif h with ⟨h66, h⟩ | ⟨h66, h⟩
    · rcases oif h with ⟨h67, h⟩ | ⟨h67, h⟩
      · obtain ⟨h68, h⟩ := oguard h
        obtain ⟨g32_, h69, h⟩ := obind h
        rcases oif h with ⟨h70, h⟩ | ⟨h70, h⟩
        · obtain ⟨h71, h⟩ := oguard h
          obtain ⟨g33_, h72, h⟩ := obind h
          refine Wc.region [{}, { r := some (.v (.bool g31_) []) }, { re := some (.bool true) }, {}, {}, {}, { re := some (.bool true) }, {}, {}, {}, { re := some (.bool true) }, {}, {}, { r := some (.v (.bool g32_) []) }, {}, {}, { re := some (.bool true) }, {}, {}, { r := some (.v (.bool g33_) []) }] [] [2] [] [] ⟨[(2, (.v (.bool (!g33_)), []))], [], []⟩ _ (by kernel_rfl) (.cons (cspec_l16Name h64) (.cons (congrArg AV.bool h65) (.cons (congrArg AV.bool h66) (.cons (congrArg AV.bool h67) (.cons h68 (.cons (cspec_Control h69) (.cons (congrArg AV.bool h70) (.cons h71 (.cons (cspec_Control h72) .nil))))))))) ?_
          refine Wc.ret ?_
          obtain rfl := Option.some.inj h
          exact ⟨.inl rfl, by kernel_rfl, by kernel_rfl⟩
        · refine Wc.region [{}, { r := some (.v (.bool g31_) []) }, { re := some (.bool true) }, {}, {}, {}, { re := some (.bool true) }, {}, {}, {}, { re := some (.bool true) }, {}, {}, { r := some (.v (.bool g32_) []) }, {}, {}, { re := some (.bool false) }] [] [2] [] [] ⟨[(2, (.v (.bool false), []))], [], []⟩ _ (by kernel_rfl) (.cons (cspec_l16Name h64) (.cons (congrArg AV.bool h65) (.cons (congrArg AV.bool h66) (.cons (congrArg AV.bool h67) (.cons h68 (.cons (cspec_Control h69) (.cons (congrArg AV.bool h70) .nil))))))) ?_
          refine Wc.ret ?_
          obtain rfl := Option.some.inj h
          exact ⟨.inl rfl, by kernel_rfl, by kernel_rfl⟩
      · refine Wc.region [{}, { r := some (.v (.bool g31_) []) }, { re := some (.bool true) }, {}, {}, {}, { re := some (.bool true) }, {}, {}, {}, { re := some (.bool false) }] [] [2] [] [] ⟨[(2, (.v (.bool false), []))], [], []⟩ _ (by kernel_rfl) (.cons (cspec_l16Name h64) (.cons (congrArg AV.bool h65) (.cons (congrArg AV.bool h66) (.cons (congrArg AV.bool h67) .nil)))) ?_
        refine Wc.ret ?_
        obtain rfl := Option.some.inj h
        exact ⟨.inl rfl, by kernel_rfl, by kernel_rfl⟩
    · refine Wc.region [{}, { r := some (.v (.bool g31_) []) }, { re := some (.bool true) }, {}, {}, {}, { re := some (.bool false) }] [] [2] [] [] ⟨[(2, (.v (.bool false), []))], [], []⟩ _ (by kernel_rfl) (.cons (cspec_l16Name h64) (.cons (congrArg AV.bool h65) (.cons (congrArg AV.bool h66) .nil))) ?_
      refine Wc.ret ?_
      obtain rfl := Option.some.inj h
      exact ⟨.inl rfl, by kernel_rfl, by kernel_rfl⟩
  · refine Wc.region [{}, { r := some (.v (.bool g31_) []) }, { re := some (.bool false) }] [] [2] [] [] ⟨[(2, (.v (.bool false), []))], [], []⟩ _ (by kernel_rfl) (.cons (cspec_l16Name h64) (.cons (congrArg AV.bool h65) .nil)) ?_
    refine Wc.ret ?_
    obtain rfl := Option.some.inj h
    exact ⟨.inl rfl, by kernel_rfl, by kernel_rfl⟩

def pspec_l18Left_L3 (k : Nat) (rspec_l18Left : (List GRule) → ByteArray → (List ByteArray) → Option (List ByteArray)) (i41_ : List ByteArray) (a46_ : GPart) : Nat → Bool → Int → Option (Out (List ByteArray) Bool)
  | 0, _, _ => none
  | m + 1, g47_, b48_ =>
    if (decide (b48_ < (i41_.length : Int))) = true then
      if g47_ = true then
        pspec_l18Left_L3 k rspec_l18Left i41_ a46_ m true (wr.i64 (b48_ + 1))
      else
        (at' i41_ b48_).bind fun f50_ =>
        pspec_l18Left_L3 k rspec_l18Left i41_ a46_ m (sEq f50_ a46_.gName) (wr.i64 (b48_ + 1))
    else
      some (.done g47_)
def pspec_l18Left_L2 (k : Nat) (rspec_l18Left : (List GRule) → ByteArray → (List ByteArray) → Option (List ByteArray)) (e34_ : List GRule) (b38_ : Int) : Nat → (List ByteArray) → Int → Option (Out (List ByteArray) (List ByteArray))
  | 0, _, _ => none
  | m + 1, i41_, b42_ =>
    (at' e34_ b38_).bind fun d44_ =>
    if (decide (b42_ < (d44_.gParts.length : Int))) = true then
      (at' e34_ b38_).bind fun d45_ =>
      (at' d45_.gParts b42_).bind fun a46_ =>
      if a46_.gWord = true then
        some (.done i41_)
      else
        (pspec_l18Left_L3 k rspec_l18Left i41_ a46_ k false 0).bind fun out3 => match out3 with
        | .ret r => some (.ret r)
        | .done g49_ =>
          if (!g49_) = true then
            if ([] : List ByteArray).length + i41_.length ≤ 1073741824 then
              if i41_.length + [a46_.gName].length ≤ 1073741824 then
                (rspec_l18Left e34_ a46_.gName (i41_ ++ [a46_.gName])).bind fun j51_ =>
                pspec_l18Left_L2 k rspec_l18Left e34_ b38_ m j51_ (wr.i64 (b42_ + 1))
              else none
            else none
          else
            pspec_l18Left_L2 k rspec_l18Left e34_ b38_ m i41_ (wr.i64 (b42_ + 1))
    else
      some (.done i41_)
def pspec_l18Left_L1 (k : Nat) (rspec_l18Left : (List GRule) → ByteArray → (List ByteArray) → Option (List ByteArray)) (e34_ : List GRule) (f35_ : ByteArray) : Nat → (List ByteArray) → Int → Option (Out (List ByteArray) (List ByteArray))
  | 0, _, _ => none
  | m + 1, i37_, b38_ =>
    if (decide (b38_ < (e34_.length : Int))) = true then
      (at' e34_ b38_).bind fun d40_ =>
      if (!(sEq d40_.gName f35_)) = true then
        pspec_l18Left_L1 k rspec_l18Left e34_ f35_ m i37_ (wr.i64 (b38_ + 1))
      else
        (pspec_l18Left_L2 k rspec_l18Left e34_ b38_ k i37_ 0).bind fun out2 => match out2 with
        | .ret r => some (.ret r)
        | .done i43_ =>
          pspec_l18Left_L1 k rspec_l18Left e34_ f35_ m i43_ (wr.i64 (b38_ + 1))
    else
      some (.done i37_)
mutual
/-- spec.l18Left -/
def pspec_l18Left : Nat → (List GRule) → ByteArray → (List ByteArray) → Option (List ByteArray)
  | 0, _, _, _ => none
  | k + 1, e34_, f35_, i36_ =>
    (pspec_l18Left_L1 k (pspec_l18Left k) e34_ f35_ k i36_ 0).bind fun out1 => match out1 with
    | .ret r => some r
    | .done i39_ =>
      some i39_
end
set_option maxHeartbeats 4000000 in
theorem all_pspec_l18Left : ∀ k : Nat, (∀ {e34_ : List GRule} {f35_ : ByteArray} {i36_ : List ByteArray} {r : (List ByteArray)}, pspec_l18Left k e34_ f35_ i36_ = some r → FnO Try.prog 70 [.v (.sl (List.map GRule.c e34_)) [], .v (.str f35_) [], .v (.sl (List.map cS i36_)) []] (.v (.sl (List.map cS r)) []) []) := by
  intro k
  induction k with
  | zero =>
    · intro e34_ f35_ i36_ r h
      exact (onone (by rw [pspec_l18Left] at h; exact h)).elim
  | succ k ih =>
    have ih_pspec_l18Left := @ih
    · intro e34_ f35_ i36_ r h
      rw [pspec_l18Left] at h
      refine FnO.of Try.func70 (rfl : Try.f70.body = some _) (Nat.le_of_ble_eq_true (by kernel_rfl)) (Nat.le_of_ble_eq_true (by kernel_rfl)) ?_
      intro w0 X0 Fin pv0 pb
      refine Wc.seq ?_
      refine Wc.region [] [] [0, 1, 2] [] [] ⟨[(0, (.v (.sl (List.map GRule.c e34_)), [])), (1, (.v (.str f35_), [])), (2, (.v (.sl (List.map cS i36_)), []))], [], []⟩ _ (by kernel_rfl) .nil ?_
      refine Wc.seq ?_
      refine Wc.seq ?_
      refine Wc.region [] [] [0, 1, 2, 7] [] [] ⟨[(0, (.v (.sl (List.map GRule.c e34_)), [])), (1, (.v (.str f35_), [])), (2, (.v (.sl (List.map cS i36_)), [])), (7, (.v (.int .i64 0), []))], [], []⟩ _ (by kernel_rfl) .nil ?_
      obtain ⟨out1, h73, h⟩ := obind h
      refine Wc.lastJ (fun st => ∃ (i39_ : List ByteArray), out1 = .done i39_ ∧ st = ⟨[(2, (.v (.sl (List.map cS i39_)), []))], [], []⟩) ?_ ?_
      · refine Wc.block ?_
        refine Wc.loop (fun m st => ∃ (i37_ : List ByteArray) (b38_ : Int), st = ⟨[(0, (.v (.sl (List.map GRule.c e34_)), [])), (1, (.v (.str f35_), [])), (2, (.v (.sl (List.map cS i37_)), [])), (7, (.v (.int .i64 b38_), []))], [], []⟩ ∧ pspec_l18Left_L1 k (pspec_l18Left k) e34_ f35_ m i37_ b38_ = some out1) ?_ k ⟨_, _, rfl, h73⟩
        rintro m st ⟨i37_, b38_, rfl, h73⟩
        cases m with
        | zero => exact (onone h73).elim
        | succ m =>
          refine Wc.seq ?_
          refine Wc.seq ?_
          refine Wc.region [{}, {}, { v := some (.int .i64 (e34_.length : Int)) }] [] [0, 1, 2, 7, 15] [] [] ⟨[(0, (.v (.sl (List.map GRule.c e34_)), [])), (1, (.v (.str f35_), [])), (2, (.v (.sl (List.map cS i37_)), [])), (7, (.v (.int .i64 b38_), [])), (15, (.v (.bool (decide (b38_ < (e34_.length : Int)))), []))], [], []⟩ _ (by kernel_rfl) (.cons (len_obl GRule.c e34_) .nil) ?_
          rcases oif h73 with ⟨h74, h73⟩ | ⟨h74, h73⟩
          · refine Wc.condT h74 (by kernel_rfl) ?_
            refine Wc.fix (st' := ⟨[(0, (.v (.sl (List.map GRule.c e34_)), [])), (1, (.v (.str f35_), [])), (2, (.v (.sl (List.map cS i37_)), [])), (7, (.v (.int .i64 b38_), []))], [], []⟩) [] [0, 1, 2, 7] [] [] (by kernel_rfl) ?_
            refine Wc.skip ?_
            refine Wc.seq ?_
            refine Wc.block ?_
            refine Wc.seq ?_
            refine Wc.seq ?_
            obtain ⟨d40_, h75, h73⟩ := obind h73
            refine Wc.region [{}, {}, { v := some (.vptr [.str d40_.gName, .sl (List.map GPart.c d40_.gParts)]) }] [] [0, 1, 2, 7, 24] [] [] ⟨[(0, (.v (.sl (List.map GRule.c e34_)), [])), (1, (.v (.str f35_), [])), (2, (.v (.sl (List.map cS i37_)), [])), (7, (.v (.int .i64 b38_), [])), (24, (.v (.bool (!(sEq d40_.gName f35_))), []))], [], []⟩ _ (by kernel_rfl) (.cons (at_obl (c := GRule.c) (GRule.c_eq d40_) GRule.c_len h75) (.cons (len_ok 1 [.str d40_.gName, .sl (List.map GPart.c d40_.gParts)]) .nil)) ?_
            rcases oif h73 with ⟨h76, h73⟩ | ⟨h76, h73⟩
            · refine Wc.condT h76 (by kernel_rfl) ?_
              refine Wc.fix (st' := ⟨[(0, (.v (.sl (List.map GRule.c e34_)), [])), (1, (.v (.str f35_), [])), (2, (.v (.sl (List.map cS i37_)), [])), (7, (.v (.int .i64 b38_), []))], [], []⟩) [] [0, 1, 2, 7] [] [] (by kernel_rfl) ?_
              refine Wc.exit ?_
              refine Wc.region [] [] [0, 1, 2, 7] [] [] ⟨[(0, (.v (.sl (List.map GRule.c e34_)), [])), (1, (.v (.str f35_), [])), (2, (.v (.sl (List.map cS i37_)), [])), (7, (.v (.int .i64 (wr.i64 (b38_ + 1))), []))], [], []⟩ _ (by kernel_rfl) .nil ?_
              exact ⟨_, Nat.lt_succ_self _, _, _, rfl, h73⟩
            · refine Wc.condF h76 (by kernel_rfl) ?_
              refine Wc.fix (st' := ⟨[(0, (.v (.sl (List.map GRule.c e34_)), [])), (1, (.v (.str f35_), [])), (2, (.v (.sl (List.map cS i37_)), [])), (7, (.v (.int .i64 b38_), []))], [], []⟩) [] [0, 1, 2, 7] [] [] (by kernel_rfl) ?_
              refine Wc.skip ?_
              refine Wc.seq ?_
              refine Wc.region [] [] [0, 1, 2, 7, 8] [] [] ⟨[(0, (.v (.sl (List.map GRule.c e34_)), [])), (1, (.v (.str f35_), [])), (2, (.v (.sl (List.map cS i37_)), [])), (7, (.v (.int .i64 b38_), [])), (8, (.v (.int .i64 0), []))], [], []⟩ _ (by kernel_rfl) .nil ?_
              obtain ⟨out2, h77, h73⟩ := obind h73
              refine Wc.lastJ (fun st => ∃ (i43_ : List ByteArray), out2 = .done i43_ ∧ st = ⟨[(0, (.v (.sl (List.map GRule.c e34_)), [])), (1, (.v (.str f35_), [])), (2, (.v (.sl (List.map cS i43_)), [])), (7, (.v (.int .i64 b38_), []))], [], []⟩) ?_ ?_
              · refine Wc.block ?_
                refine Wc.loop (fun m st => ∃ (i41_ : List ByteArray) (b42_ : Int), st = ⟨[(0, (.v (.sl (List.map GRule.c e34_)), [])), (1, (.v (.str f35_), [])), (2, (.v (.sl (List.map cS i41_)), [])), (7, (.v (.int .i64 b38_), [])), (8, (.v (.int .i64 b42_), []))], [], []⟩ ∧ pspec_l18Left_L2 k (pspec_l18Left k) e34_ b38_ m i41_ b42_ = some out2) ?_ k ⟨_, _, rfl, h77⟩
                rintro m st ⟨i41_, b42_, rfl, h77⟩
                cases m with
                | zero => exact (onone h77).elim
                | succ m =>
                  refine Wc.seq ?_
                  refine Wc.seq ?_
                  obtain ⟨d44_, h78, h77⟩ := obind h77
                  refine Wc.region [{}, {}, {}, { v := some (.vptr [.str d44_.gName, .sl (List.map GPart.c d44_.gParts)]) }, {}, {}, { v := some (.int .i64 (d44_.gParts.length : Int)) }] [] [0, 1, 2, 7, 8, 32] [] [] ⟨[(0, (.v (.sl (List.map GRule.c e34_)), [])), (1, (.v (.str f35_), [])), (2, (.v (.sl (List.map cS i41_)), [])), (7, (.v (.int .i64 b38_), [])), (8, (.v (.int .i64 b42_), [])), (32, (.v (.bool (decide (b42_ < (d44_.gParts.length : Int)))), []))], [], []⟩ _ (by kernel_rfl) (.cons (at_obl (c := GRule.c) (GRule.c_eq d44_) GRule.c_len h78) (.cons (len_ok 1 [.sl (List.map GPart.c d44_.gParts)]) (.cons (len_obl GPart.c d44_.gParts) .nil))) ?_
                  rcases oif h77 with ⟨h79, h77⟩ | ⟨h79, h77⟩
                  · refine Wc.condT h79 (by kernel_rfl) ?_
                    refine Wc.fix (st' := ⟨[(0, (.v (.sl (List.map GRule.c e34_)), [])), (1, (.v (.str f35_), [])), (2, (.v (.sl (List.map cS i41_)), [])), (7, (.v (.int .i64 b38_), [])), (8, (.v (.int .i64 b42_), []))], [], []⟩) [] [0, 1, 2, 7, 8] [] [] (by kernel_rfl) ?_
                    refine Wc.skip ?_
                    refine Wc.seq ?_
                    refine Wc.block ?_
                    refine Wc.seq ?_
                    obtain ⟨d45_, h80, h77⟩ := obind h77
                    obtain ⟨a46_, h81, h77⟩ := obind h77
                    refine Wc.region [{}, {}, { v := some (.vptr [.str d45_.gName, .sl (List.map GPart.c d45_.gParts)]) }, {}, {}, {}, { v := some (.vptr [.bool a46_.gWord, .str a46_.gName]) }] [] [0, 1, 2, 7, 8, 9] [9] [] ⟨[(0, (.v (.sl (List.map GRule.c e34_)), [])), (1, (.v (.str f35_), [])), (2, (.v (.sl (List.map cS i41_)), [])), (7, (.v (.int .i64 b38_), [])), (8, (.v (.int .i64 b42_), [])), (9, (.ptr 9 0, []))], [(9, .cells [.bool a46_.gWord, .str a46_.gName] [])], []⟩ _ (by kernel_rfl) (.cons (at_obl (c := GRule.c) (GRule.c_eq d45_) GRule.c_len h80) (.cons (len_ok 1 [.sl (List.map GPart.c d45_.gParts)]) (.cons (at_obl (c := GPart.c) (GPart.c_eq a46_) GPart.c_len h81) (.cons (len_ok 2 [.bool a46_.gWord, .str a46_.gName]) .nil)))) ?_
                    refine Wc.seq ?_
                    refine Wc.seq ?_
                    refine Wc.region [] [] [0, 1, 2, 7, 8, 9, 44] [9] [] ⟨[(0, (.v (.sl (List.map GRule.c e34_)), [])), (1, (.v (.str f35_), [])), (2, (.v (.sl (List.map cS i41_)), [])), (7, (.v (.int .i64 b38_), [])), (8, (.v (.int .i64 b42_), [])), (9, (.ptr 9 0, [])), (44, (.v (.bool a46_.gWord), []))], [(9, .cells [.bool a46_.gWord, .str a46_.gName] [])], []⟩ _ (by kernel_rfl) .nil ?_
                    rcases oif h77 with ⟨h82, h77⟩ | ⟨h82, h77⟩
                    · refine Wc.condT h82 (by kernel_rfl) ?_
                      refine Wc.fix (st' := ⟨[(0, (.v (.sl (List.map GRule.c e34_)), [])), (1, (.v (.str f35_), [])), (2, (.v (.sl (List.map cS i41_)), [])), (7, (.v (.int .i64 b38_), []))], [], []⟩) [] [0, 1, 2, 7] [] [] (by kernel_rfl) ?_
                      refine Wc.exit ?_
                      obtain rfl := Option.some.inj h77
                      exact ⟨_, rfl, rfl⟩
                    · refine Wc.condF h82 (by kernel_rfl) ?_
                      refine Wc.fix (st' := ⟨[(0, (.v (.sl (List.map GRule.c e34_)), [])), (1, (.v (.str f35_), [])), (2, (.v (.sl (List.map cS i41_)), [])), (7, (.v (.int .i64 b38_), [])), (8, (.v (.int .i64 b42_), [])), (9, (.ptr 9 0, []))], [(9, .cells [.bool a46_.gWord, .str a46_.gName] [])], []⟩) [] [0, 1, 2, 7, 8, 9] [9] [] (by kernel_rfl) ?_
                      refine Wc.skip ?_
                      refine Wc.seq ?_
                      refine Wc.region [] [] [0, 1, 2, 7, 8, 9, 10] [9] [] ⟨[(0, (.v (.sl (List.map GRule.c e34_)), [])), (1, (.v (.str f35_), [])), (2, (.v (.sl (List.map cS i41_)), [])), (7, (.v (.int .i64 b38_), [])), (8, (.v (.int .i64 b42_), [])), (9, (.ptr 9 0, [])), (10, (.v (.bool false), []))], [(9, .cells [.bool a46_.gWord, .str a46_.gName] [])], []⟩ _ (by kernel_rfl) .nil ?_
                      refine Wc.seq ?_
                      refine Wc.seq ?_
                      refine Wc.region [] [] [0, 1, 2, 7, 8, 9, 10, 11] [9] [] ⟨[(0, (.v (.sl (List.map GRule.c e34_)), [])), (1, (.v (.str f35_), [])), (2, (.v (.sl (List.map cS i41_)), [])), (7, (.v (.int .i64 b38_), [])), (8, (.v (.int .i64 b42_), [])), (9, (.ptr 9 0, [])), (10, (.v (.bool false), [])), (11, (.v (.int .i64 0), []))], [(9, .cells [.bool a46_.gWord, .str a46_.gName] [])], []⟩ _ (by kernel_rfl) .nil ?_
                      obtain ⟨out3, h83, h77⟩ := obind h77
                      refine Wc.lastJ (fun st => ∃ (g49_ : Bool), out3 = .done g49_ ∧ st = ⟨[(0, (.v (.sl (List.map GRule.c e34_)), [])), (1, (.v (.str f35_), [])), (2, (.v (.sl (List.map cS i41_)), [])), (7, (.v (.int .i64 b38_), [])), (8, (.v (.int .i64 b42_), [])), (9, (.ptr 9 0, [])), (10, (.v (.bool g49_), []))], [(9, .cells [.bool a46_.gWord, .str a46_.gName] [])], []⟩) ?_ ?_
                      · refine Wc.block ?_
                        refine Wc.loop (fun m st => ∃ (g47_ : Bool) (b48_ : Int), st = ⟨[(0, (.v (.sl (List.map GRule.c e34_)), [])), (1, (.v (.str f35_), [])), (2, (.v (.sl (List.map cS i41_)), [])), (7, (.v (.int .i64 b38_), [])), (8, (.v (.int .i64 b42_), [])), (9, (.ptr 9 0, [])), (10, (.v (.bool g47_), [])), (11, (.v (.int .i64 b48_), []))], [(9, .cells [.bool a46_.gWord, .str a46_.gName] [])], []⟩ ∧ pspec_l18Left_L3 k (pspec_l18Left k) i41_ a46_ m g47_ b48_ = some out3) ?_ k ⟨_, _, rfl, h83⟩
                        rintro m st ⟨g47_, b48_, rfl, h83⟩
                        cases m with
                        | zero => exact (onone h83).elim
                        | succ m =>
                          refine Wc.seq ?_
                          refine Wc.seq ?_
                          refine Wc.region [{}, {}, { v := some (.int .i64 (i41_.length : Int)) }] [] [0, 1, 2, 7, 8, 9, 10, 11, 48] [9] [] ⟨[(0, (.v (.sl (List.map GRule.c e34_)), [])), (1, (.v (.str f35_), [])), (2, (.v (.sl (List.map cS i41_)), [])), (7, (.v (.int .i64 b38_), [])), (8, (.v (.int .i64 b42_), [])), (9, (.ptr 9 0, [])), (10, (.v (.bool g47_), [])), (11, (.v (.int .i64 b48_), [])), (48, (.v (.bool (decide (b48_ < (i41_.length : Int)))), []))], [(9, .cells [.bool a46_.gWord, .str a46_.gName] [])], []⟩ _ (by kernel_rfl) (.cons (len_obl cS i41_) .nil) ?_
                          rcases oif h83 with ⟨h84, h83⟩ | ⟨h84, h83⟩
                          · refine Wc.condT h84 (by kernel_rfl) ?_
                            refine Wc.fix (st' := ⟨[(0, (.v (.sl (List.map GRule.c e34_)), [])), (1, (.v (.str f35_), [])), (2, (.v (.sl (List.map cS i41_)), [])), (7, (.v (.int .i64 b38_), [])), (8, (.v (.int .i64 b42_), [])), (9, (.ptr 9 0, [])), (10, (.v (.bool g47_), [])), (11, (.v (.int .i64 b48_), []))], [(9, .cells [.bool a46_.gWord, .str a46_.gName] [])], []⟩) [] [0, 1, 2, 7, 8, 9, 10, 11] [9] [] (by kernel_rfl) ?_
                            refine Wc.skip ?_
                            refine Wc.seq ?_
                            refine Wc.block ?_
                            rcases oif h83 with ⟨h85, h83⟩ | ⟨h85, h83⟩
                            · refine Wc.draw hmix [{}, { re := some (.bool true) }] [] [0, 1, 2, 7, 8, 9, 10, 11] [9] [] ⟨[(0, (.v (.sl (List.map GRule.c e34_)), [])), (1, (.v (.str f35_), [])), (2, (.v (.sl (List.map cS i41_)), [])), (7, (.v (.int .i64 b38_), [])), (8, (.v (.int .i64 b42_), [])), (9, (.ptr 9 0, [])), (10, (.v (.bool true), [])), (11, (.v (.int .i64 b48_), []))], [(9, .cells [.bool a46_.gWord, .str a46_.gName] [])], []⟩ _ (by kernel_rfl) (fun X => by kernel_rfl) (.cons (congrArg AV.bool h85) .nil) ?_
                              refine Wc.region [] [] [0, 1, 2, 7, 8, 9, 10, 11] [9] [] ⟨[(0, (.v (.sl (List.map GRule.c e34_)), [])), (1, (.v (.str f35_), [])), (2, (.v (.sl (List.map cS i41_)), [])), (7, (.v (.int .i64 b38_), [])), (8, (.v (.int .i64 b42_), [])), (9, (.ptr 9 0, [])), (10, (.v (.bool true), [])), (11, (.v (.int .i64 (wr.i64 (b48_ + 1))), []))], [(9, .cells [.bool a46_.gWord, .str a46_.gName] [])], []⟩ _ (by kernel_rfl) .nil ?_
                              exact ⟨_, Nat.lt_succ_self _, _, _, rfl, h83⟩
                            · obtain ⟨f50_, h86, h83⟩ := obind h83
                              refine Wc.draw hmix [{}, { re := some (.bool false) }, {}, {}, { v := some (.vptr [.str f50_]) }] [] [0, 1, 2, 7, 8, 9, 10, 11] [9] [] ⟨[(0, (.v (.sl (List.map GRule.c e34_)), [])), (1, (.v (.str f35_), [])), (2, (.v (.sl (List.map cS i41_)), [])), (7, (.v (.int .i64 b38_), [])), (8, (.v (.int .i64 b42_), [])), (9, (.ptr 9 0, [])), (10, (.v (.bool (sEq f50_ a46_.gName)), [])), (11, (.v (.int .i64 b48_), []))], [(9, .cells [.bool a46_.gWord, .str a46_.gName] [])], []⟩ _ (by kernel_rfl) (fun X => by kernel_rfl) (.cons (congrArg AV.bool h85) (.cons (at_obl (c := cS) rfl cS_len h86) (.cons (len_ok 1 [.str f50_]) .nil))) ?_
                              refine Wc.region [] [] [0, 1, 2, 7, 8, 9, 10, 11] [9] [] ⟨[(0, (.v (.sl (List.map GRule.c e34_)), [])), (1, (.v (.str f35_), [])), (2, (.v (.sl (List.map cS i41_)), [])), (7, (.v (.int .i64 b38_), [])), (8, (.v (.int .i64 b42_), [])), (9, (.ptr 9 0, [])), (10, (.v (.bool (sEq f50_ a46_.gName)), [])), (11, (.v (.int .i64 (wr.i64 (b48_ + 1))), []))], [(9, .cells [.bool a46_.gWord, .str a46_.gName] [])], []⟩ _ (by kernel_rfl) .nil ?_
                              exact ⟨_, Nat.lt_succ_self _, _, _, rfl, h83⟩
                          · refine Wc.condF h84 (by kernel_rfl) ?_
                            refine Wc.fix (st' := ⟨[(0, (.v (.sl (List.map GRule.c e34_)), [])), (1, (.v (.str f35_), [])), (2, (.v (.sl (List.map cS i41_)), [])), (7, (.v (.int .i64 b38_), [])), (8, (.v (.int .i64 b42_), [])), (9, (.ptr 9 0, [])), (10, (.v (.bool g47_), []))], [(9, .cells [.bool a46_.gWord, .str a46_.gName] [])], []⟩) [] [0, 1, 2, 7, 8, 9, 10] [9] [] (by kernel_rfl) ?_
                            refine Wc.exit ?_
                            obtain rfl := Option.some.inj h83
                            exact ⟨_, rfl, rfl⟩
                      · rintro st ⟨g49_, rfl, rfl⟩
                        refine Wc.seq ?_
                        refine Wc.region [] [] [0, 1, 2, 7, 8, 9, 62] [9] [] ⟨[(0, (.v (.sl (List.map GRule.c e34_)), [])), (1, (.v (.str f35_), [])), (2, (.v (.sl (List.map cS i41_)), [])), (7, (.v (.int .i64 b38_), [])), (8, (.v (.int .i64 b42_), [])), (9, (.ptr 9 0, [])), (62, (.v (.bool (!g49_)), []))], [(9, .cells [.bool a46_.gWord, .str a46_.gName] [])], []⟩ _ (by kernel_rfl) .nil ?_
                        rcases oif h77 with ⟨h87, h77⟩ | ⟨h87, h77⟩
                        · refine Wc.condT h87 (by kernel_rfl) ?_
                          refine Wc.seq ?_
                          obtain ⟨h88, h77⟩ := oguard h77
                          obtain ⟨h89, h77⟩ := oguard h77
                          refine Wc.draw hmix [{ c := some (List.map cS []) }, {}, { c := some (List.map cS i41_), tk := [63] }, {}, {}, { c := some (List.map cS [a46_.gName]) }, { c := some (List.map cS (i41_ ++ [a46_.gName])), tk := [65] }, { tk := [69] }] [] [0, 1, 2, 7, 8, 9] [9] [] ⟨[(0, (.v (.sl (List.map GRule.c e34_)), [])), (1, (.v (.str f35_), [])), (2, (.v (.sl (List.map cS (i41_ ++ [a46_.gName]))), [(0, .app 9)])), (7, (.v (.int .i64 b38_), [])), (8, (.v (.int .i64 b42_), [])), (9, (.ptr 9 0, []))], [(9, .cells [.bool a46_.gWord, .str a46_.gName] [])], []⟩ _ (by kernel_rfl) (fun X => by kernel_rfl) (.cons (cl_nil cS) (.cons (app_re0 cS i41_) (.cons (app_leaf (c := cS) (ys := i41_) cS_leaf) (.cons (app_obl2 (c := cS) (xs := []) (ys := i41_) cS_len h88) (.cons (cl_cons (c := cS) (x := a46_.gName) rfl (cl_nil cS)) (.cons (app_re2 cS i41_ [a46_.gName]) (.cons (app_leaf (c := cS) (ys := [a46_.gName]) cS_leaf) (.cons (app_obl2 (c := cS) (xs := i41_) (ys := [a46_.gName]) cS_len h89) .nil)))))))) ?_
                          obtain ⟨j51_, h90, h77⟩ := obind h77
                          refine Wc.region [{}, {}, {}, { tk := [2] }, { r := some (.v (.sl (List.map cS j51_)) []) }] [] [0, 1, 2, 7, 8] [] [] ⟨[(0, (.v (.sl (List.map GRule.c e34_)), [])), (1, (.v (.str f35_), [])), (2, (.v (.sl (List.map cS j51_)), [])), (7, (.v (.int .i64 b38_), [])), (8, (.v (.int .i64 b42_), []))], [], []⟩ _ (by kernel_rfl) (.cons (ih_pspec_l18Left h90) .nil) ?_
                          refine Wc.region [] [] [0, 1, 2, 7, 8] [] [] ⟨[(0, (.v (.sl (List.map GRule.c e34_)), [])), (1, (.v (.str f35_), [])), (2, (.v (.sl (List.map cS j51_)), [])), (7, (.v (.int .i64 b38_), [])), (8, (.v (.int .i64 (wr.i64 (b42_ + 1))), []))], [], []⟩ _ (by kernel_rfl) .nil ?_
                          exact ⟨_, Nat.lt_succ_self _, _, _, rfl, h77⟩
                        · refine Wc.condF h87 (by kernel_rfl) ?_
                          refine Wc.fix (st' := ⟨[(0, (.v (.sl (List.map GRule.c e34_)), [])), (1, (.v (.str f35_), [])), (2, (.v (.sl (List.map cS i41_)), [])), (7, (.v (.int .i64 b38_), [])), (8, (.v (.int .i64 b42_), []))], [], []⟩) [] [0, 1, 2, 7, 8] [] [] (by kernel_rfl) ?_
                          refine Wc.skip ?_
                          refine Wc.region [] [] [0, 1, 2, 7, 8] [] [] ⟨[(0, (.v (.sl (List.map GRule.c e34_)), [])), (1, (.v (.str f35_), [])), (2, (.v (.sl (List.map cS i41_)), [])), (7, (.v (.int .i64 b38_), [])), (8, (.v (.int .i64 (wr.i64 (b42_ + 1))), []))], [], []⟩ _ (by kernel_rfl) .nil ?_
                          exact ⟨_, Nat.lt_succ_self _, _, _, rfl, h77⟩
                  · refine Wc.condF h79 (by kernel_rfl) ?_
                    refine Wc.fix (st' := ⟨[(0, (.v (.sl (List.map GRule.c e34_)), [])), (1, (.v (.str f35_), [])), (2, (.v (.sl (List.map cS i41_)), [])), (7, (.v (.int .i64 b38_), []))], [], []⟩) [] [0, 1, 2, 7] [] [] (by kernel_rfl) ?_
                    refine Wc.exit ?_
                    obtain rfl := Option.some.inj h77
                    exact ⟨_, rfl, rfl⟩
              · rintro st ⟨i43_, rfl, rfl⟩
                refine Wc.region [] [] [0, 1, 2, 7] [] [] ⟨[(0, (.v (.sl (List.map GRule.c e34_)), [])), (1, (.v (.str f35_), [])), (2, (.v (.sl (List.map cS i43_)), [])), (7, (.v (.int .i64 (wr.i64 (b38_ + 1))), []))], [], []⟩ _ (by kernel_rfl) .nil ?_
                exact ⟨_, Nat.lt_succ_self _, _, _, rfl, h73⟩
          · refine Wc.condF h74 (by kernel_rfl) ?_
            refine Wc.fix (st' := ⟨[(2, (.v (.sl (List.map cS i37_)), []))], [], []⟩) [] [2] [] [] (by kernel_rfl) ?_
            refine Wc.exit ?_
            obtain rfl := Option.some.inj h73
            exact ⟨_, rfl, rfl⟩
      · rintro st ⟨i39_, rfl, rfl⟩
        refine Wc.seq ?_
        refine Wc.region [] [] [6] [] [] ⟨[(6, (.v (.sl (List.map cS i39_)), []))], [], []⟩ _ (by kernel_rfl) .nil ?_
        refine Wc.ret ?_
        obtain rfl := Option.some.inj h
        exact ⟨.inl rfl, by kernel_rfl, by kernel_rfl⟩
theorem cspec_l18Left {k : Nat} {e34_ : List GRule} {f35_ : ByteArray} {i36_ : List ByteArray} {r : (List ByteArray)} (h : pspec_l18Left k e34_ f35_ i36_ = some r) : FnO Try.prog 70 [.v (.sl (List.map GRule.c e34_)) [], .v (.str f35_) [], .v (.sl (List.map cS i36_)) []] (.v (.sl (List.map cS r)) []) [] := (all_pspec_l18Left k) h

def pspec_RulesOk_L2 (k : Nat) (e52_ : List GRule) (b53_ : Int) : Nat → Int → Option (Out Bool Unit)
  | 0, _ => none
  | m + 1, b57_ =>
    (at' e52_ b53_).bind fun d58_ =>
    if (decide (b57_ < (d58_.gParts.length : Int))) = true then
      (at' e52_ b53_).bind fun d59_ =>
      (at' d59_.gParts b57_).bind fun a60_ =>
      (pspec_l18Name k a60_.gName).bind fun g61_ =>
      if (!g61_) = true then
        some (.ret false)
      else
        pspec_RulesOk_L2 k e52_ b53_ m (wr.i64 (b57_ + 1))
    else
      some (.done ())
def pspec_RulesOk_L1 (k : Nat) (e52_ : List GRule) : Nat → Int → Option (Out Bool Unit)
  | 0, _ => none
  | m + 1, b53_ =>
    if (decide (b53_ < (e52_.length : Int))) = true then
      (at' e52_ b53_).bind fun d54_ =>
      (pspec_l18Name k d54_.gName).bind fun g55_ =>
      if (!g55_) = true then
        some (.ret false)
      else
        (at' e52_ b53_).bind fun d56_ =>
        if (decide ((d56_.gParts.length : Int) > 4)) = true then
          some (.ret false)
        else
          (pspec_RulesOk_L2 k e52_ b53_ k 0).bind fun out2 => match out2 with
          | .ret r => some (.ret r)
          | .done () =>
            pspec_RulesOk_L1 k e52_ m (wr.i64 (b53_ + 1))
    else
      some (.done ())
def pspec_RulesOk_L4 (k : Nat) (j64_ : (List ByteArray)) (e52_ : List GRule) (b62_ : Int) : Nat → Int → Option (Out Bool Unit)
  | 0, _ => none
  | m + 1, b65_ =>
    if (decide (b65_ < (j64_.length : Int))) = true then
      (at' j64_ b65_).bind fun f66_ =>
      (at' e52_ b62_).bind fun d67_ =>
      if (sEq f66_ d67_.gName) = true then
        some (.ret false)
      else
        pspec_RulesOk_L4 k j64_ e52_ b62_ m (wr.i64 (b65_ + 1))
    else
      some (.done ())
def pspec_RulesOk_L3 (k : Nat) (e52_ : List GRule) : Nat → Int → Option (Out Bool Unit)
  | 0, _ => none
  | m + 1, b62_ =>
    if (decide (b62_ < (e52_.length : Int))) = true then
      (at' e52_ b62_).bind fun d63_ =>
      (pspec_l18Left k e52_ d63_.gName []).bind fun j64_ =>
      (pspec_RulesOk_L4 k j64_ e52_ b62_ k 0).bind fun out4 => match out4 with
      | .ret r => some (.ret r)
      | .done () =>
        pspec_RulesOk_L3 k e52_ m (wr.i64 (b62_ + 1))
    else
      some (.done ())
/-- spec.RulesOk -/
def pspec_RulesOk (k : Nat) (e52_ : List GRule) : Option Bool :=
  if (decide ((e52_.length : Int) > 12)) = true then
    some false
  else
    (pspec_RulesOk_L1 k e52_ k 0).bind fun out1 => match out1 with
    | .ret r => some r
    | .done () =>
      (pspec_RulesOk_L3 k e52_ k 0).bind fun out3 => match out3 with
      | .ret r => some r
      | .done () =>
        some true
set_option maxHeartbeats 4000000 in
theorem cspec_RulesOk {k : Nat} {e52_ : List GRule} {r : Bool} (h : pspec_RulesOk k e52_ = some r) : FnO Try.prog 29 [.v (.sl (List.map GRule.c e52_)) []] (.v (.bool r) []) [] := by
  refine FnO.of Try.func29 (rfl : Try.f29.body = some _) (Nat.le_of_ble_eq_true (by kernel_rfl)) (Nat.le_of_ble_eq_true (by kernel_rfl)) ?_
  intro w0 X0 Fin pv0 pb
  unfold pspec_RulesOk at h
  refine Wc.seq ?_
  refine Wc.region [] [] [0] [] [] ⟨[(0, (.v (.sl (List.map GRule.c e52_)), []))], [], []⟩ _ (by kernel_rfl) .nil ?_
  refine Wc.seq ?_
  refine Wc.seq ?_
  refine Wc.region [{}, { v := some (.int .i64 (e52_.length : Int)) }] [] [0, 10] [] [] ⟨[(0, (.v (.sl (List.map GRule.c e52_)), [])), (10, (.v (.bool (decide ((e52_.length : Int) > 12))), []))], [], []⟩ _ (by kernel_rfl) (.cons (len_obl GRule.c e52_) .nil) ?_
  rcases oif h with ⟨h91, h⟩ | ⟨h91, h⟩
  · refine Wc.condT h91 (by kernel_rfl) ?_
    refine Wc.seq ?_
    refine Wc.region [] [] [2] [] [] ⟨[(2, (.v (.bool false), []))], [], []⟩ _ (by kernel_rfl) .nil ?_
    refine Wc.ret ?_
    obtain rfl := Option.some.inj h
    exact ⟨.inl rfl, by kernel_rfl, by kernel_rfl⟩
  · refine Wc.condF h91 (by kernel_rfl) ?_
    refine Wc.fix (st' := ⟨[(0, (.v (.sl (List.map GRule.c e52_)), []))], [], []⟩) [] [0] [] [] (by kernel_rfl) ?_
    refine Wc.skip ?_
    refine Wc.seq ?_
    refine Wc.seq ?_
    refine Wc.region [] [] [0, 3] [] [] ⟨[(0, (.v (.sl (List.map GRule.c e52_)), [])), (3, (.v (.int .i64 0), []))], [], []⟩ _ (by kernel_rfl) .nil ?_
    obtain ⟨out1, h92, h⟩ := obind h
    refine Wc.lastJ (fun st => out1 = .done () ∧ st = ⟨[(0, (.v (.sl (List.map GRule.c e52_)), []))], [], []⟩) ?_ ?_
    · refine Wc.block ?_
      refine Wc.loop (fun m st => ∃ (b53_ : Int), st = ⟨[(0, (.v (.sl (List.map GRule.c e52_)), [])), (3, (.v (.int .i64 b53_), []))], [], []⟩ ∧ pspec_RulesOk_L1 k e52_ m b53_ = some out1) ?_ k ⟨_, rfl, h92⟩
      rintro m st ⟨b53_, rfl, h92⟩
      cases m with
      | zero => exact (onone h92).elim
      | succ m =>
        refine Wc.seq ?_
        refine Wc.seq ?_
        refine Wc.region [{}, {}, { v := some (.int .i64 (e52_.length : Int)) }] [] [0, 3, 14] [] [] ⟨[(0, (.v (.sl (List.map GRule.c e52_)), [])), (3, (.v (.int .i64 b53_), [])), (14, (.v (.bool (decide (b53_ < (e52_.length : Int)))), []))], [], []⟩ _ (by kernel_rfl) (.cons (len_obl GRule.c e52_) .nil) ?_
        rcases oif h92 with ⟨h93, h92⟩ | ⟨h93, h92⟩
        · refine Wc.condT h93 (by kernel_rfl) ?_
          refine Wc.fix (st' := ⟨[(0, (.v (.sl (List.map GRule.c e52_)), [])), (3, (.v (.int .i64 b53_), []))], [], []⟩) [] [0, 3] [] [] (by kernel_rfl) ?_
          refine Wc.skip ?_
          refine Wc.seq ?_
          refine Wc.block ?_
          refine Wc.seq ?_
          refine Wc.seq ?_
          obtain ⟨d54_, h94, h92⟩ := obind h92
          obtain ⟨g55_, h95, h92⟩ := obind h92
          rcases oif h92 with ⟨h96, h92⟩ | ⟨h96, h92⟩
          · refine Wc.region [{}, {}, { v := some (.vptr [.str d54_.gName, .sl (List.map GPart.c d54_.gParts)]) }, {}, {}, { r := some (.v (.bool g55_) []) }, {}, { re := some (.bool true) }] [] [0, 3, 32] [] [] ⟨[(0, (.v (.sl (List.map GRule.c e52_)), [])), (3, (.v (.int .i64 b53_), [])), (32, (.v (.bool true), []))], [], []⟩ _ (by kernel_rfl) (.cons (at_obl (c := GRule.c) (GRule.c_eq d54_) GRule.c_len h94) (.cons (len_ok 1 [.str d54_.gName, .sl (List.map GPart.c d54_.gParts)]) (.cons (cspec_l18Name h95) (.cons (congrArg AV.bool h96) .nil)))) ?_
            refine Wc.condT rfl (by kernel_rfl) ?_
            refine Wc.seq ?_
            refine Wc.region [] [] [2] [] [] ⟨[(2, (.v (.bool false), []))], [], []⟩ _ (by kernel_rfl) .nil ?_
            refine Wc.ret ?_
            obtain rfl := Option.some.inj h92
            obtain rfl := Option.some.inj h
            exact ⟨.inl rfl, by kernel_rfl, by kernel_rfl⟩
          · obtain ⟨d56_, h97, h92⟩ := obind h92
            refine Wc.region [{}, {}, { v := some (.vptr [.str d54_.gName, .sl (List.map GPart.c d54_.gParts)]) }, {}, {}, { r := some (.v (.bool g55_) []) }, {}, { re := some (.bool false) }, {}, {}, { v := some (.vptr [.str d56_.gName, .sl (List.map GPart.c d56_.gParts)]) }, {}, {}, { v := some (.int .i64 (d56_.gParts.length : Int)) }] [] [0, 3, 32] [] [] ⟨[(0, (.v (.sl (List.map GRule.c e52_)), [])), (3, (.v (.int .i64 b53_), [])), (32, (.v (.bool (decide ((d56_.gParts.length : Int) > 4))), []))], [], []⟩ _ (by kernel_rfl) (.cons (at_obl (c := GRule.c) (GRule.c_eq d54_) GRule.c_len h94) (.cons (len_ok 1 [.str d54_.gName, .sl (List.map GPart.c d54_.gParts)]) (.cons (cspec_l18Name h95) (.cons (congrArg AV.bool h96) (.cons (at_obl (c := GRule.c) (GRule.c_eq d56_) GRule.c_len h97) (.cons (len_ok 1 [.sl (List.map GPart.c d56_.gParts)]) (.cons (len_obl GPart.c d56_.gParts) .nil))))))) ?_
            rcases oif h92 with ⟨h98, h92⟩ | ⟨h98, h92⟩
            · refine Wc.condT h98 (by kernel_rfl) ?_
              refine Wc.seq ?_
              refine Wc.region [] [] [2] [] [] ⟨[(2, (.v (.bool false), []))], [], []⟩ _ (by kernel_rfl) .nil ?_
              refine Wc.ret ?_
              obtain rfl := Option.some.inj h92
              obtain rfl := Option.some.inj h
              exact ⟨.inl rfl, by kernel_rfl, by kernel_rfl⟩
            · refine Wc.condF h98 (by kernel_rfl) ?_
              refine Wc.fix (st' := ⟨[(0, (.v (.sl (List.map GRule.c e52_)), [])), (3, (.v (.int .i64 b53_), []))], [], []⟩) [] [0, 3] [] [] (by kernel_rfl) ?_
              refine Wc.skip ?_
              refine Wc.seq ?_
              refine Wc.region [] [] [0, 3, 4] [] [] ⟨[(0, (.v (.sl (List.map GRule.c e52_)), [])), (3, (.v (.int .i64 b53_), [])), (4, (.v (.int .i64 0), []))], [], []⟩ _ (by kernel_rfl) .nil ?_
              obtain ⟨out2, h99, h92⟩ := obind h92
              refine Wc.lastJ (fun st => out2 = .done () ∧ st = ⟨[(0, (.v (.sl (List.map GRule.c e52_)), [])), (3, (.v (.int .i64 b53_), []))], [], []⟩) ?_ ?_
              · refine Wc.block ?_
                refine Wc.loop (fun m st => ∃ (b57_ : Int), st = ⟨[(0, (.v (.sl (List.map GRule.c e52_)), [])), (3, (.v (.int .i64 b53_), [])), (4, (.v (.int .i64 b57_), []))], [], []⟩ ∧ pspec_RulesOk_L2 k e52_ b53_ m b57_ = some out2) ?_ k ⟨_, rfl, h99⟩
                rintro m st ⟨b57_, rfl, h99⟩
                cases m with
                | zero => exact (onone h99).elim
                | succ m =>
                  refine Wc.seq ?_
                  refine Wc.seq ?_
                  obtain ⟨d58_, h100, h99⟩ := obind h99
                  refine Wc.region [{}, {}, {}, { v := some (.vptr [.str d58_.gName, .sl (List.map GPart.c d58_.gParts)]) }, {}, {}, { v := some (.int .i64 (d58_.gParts.length : Int)) }] [] [0, 3, 4, 40] [] [] ⟨[(0, (.v (.sl (List.map GRule.c e52_)), [])), (3, (.v (.int .i64 b53_), [])), (4, (.v (.int .i64 b57_), [])), (40, (.v (.bool (decide (b57_ < (d58_.gParts.length : Int)))), []))], [], []⟩ _ (by kernel_rfl) (.cons (at_obl (c := GRule.c) (GRule.c_eq d58_) GRule.c_len h100) (.cons (len_ok 1 [.sl (List.map GPart.c d58_.gParts)]) (.cons (len_obl GPart.c d58_.gParts) .nil))) ?_
                  rcases oif h99 with ⟨h101, h99⟩ | ⟨h101, h99⟩
                  · refine Wc.condT h101 (by kernel_rfl) ?_
                    refine Wc.fix (st' := ⟨[(0, (.v (.sl (List.map GRule.c e52_)), [])), (3, (.v (.int .i64 b53_), [])), (4, (.v (.int .i64 b57_), []))], [], []⟩) [] [0, 3, 4] [] [] (by kernel_rfl) ?_
                    refine Wc.skip ?_
                    refine Wc.seq ?_
                    refine Wc.block ?_
                    refine Wc.seq ?_
                    obtain ⟨d59_, h102, h99⟩ := obind h99
                    obtain ⟨a60_, h103, h99⟩ := obind h99
                    obtain ⟨g61_, h104, h99⟩ := obind h99
                    refine Wc.region [{}, {}, { v := some (.vptr [.str d59_.gName, .sl (List.map GPart.c d59_.gParts)]) }, {}, {}, {}, { v := some (.vptr [.bool a60_.gWord, .str a60_.gName]) }, {}, {}, { r := some (.v (.bool g61_) []) }] [] [0, 3, 4, 53] [] [] ⟨[(0, (.v (.sl (List.map GRule.c e52_)), [])), (3, (.v (.int .i64 b53_), [])), (4, (.v (.int .i64 b57_), [])), (53, (.v (.bool (!g61_)), []))], [], []⟩ _ (by kernel_rfl) (.cons (at_obl (c := GRule.c) (GRule.c_eq d59_) GRule.c_len h102) (.cons (len_ok 1 [.sl (List.map GPart.c d59_.gParts)]) (.cons (at_obl (c := GPart.c) (GPart.c_eq a60_) GPart.c_len h103) (.cons (len_ok 1 [.str a60_.gName]) (.cons (cspec_l18Name h104) .nil))))) ?_
                    rcases oif h99 with ⟨h105, h99⟩ | ⟨h105, h99⟩
                    · refine Wc.condT h105 (by kernel_rfl) ?_
                      refine Wc.seq ?_
                      refine Wc.region [] [] [2] [] [] ⟨[(2, (.v (.bool false), []))], [], []⟩ _ (by kernel_rfl) .nil ?_
                      refine Wc.ret ?_
                      obtain rfl := Option.some.inj h99
                      obtain rfl := Option.some.inj h92
                      obtain rfl := Option.some.inj h
                      exact ⟨.inl rfl, by kernel_rfl, by kernel_rfl⟩
                    · refine Wc.condF h105 (by kernel_rfl) ?_
                      refine Wc.fix (st' := ⟨[(0, (.v (.sl (List.map GRule.c e52_)), [])), (3, (.v (.int .i64 b53_), [])), (4, (.v (.int .i64 b57_), []))], [], []⟩) [] [0, 3, 4] [] [] (by kernel_rfl) ?_
                      refine Wc.skip ?_
                      refine Wc.region [] [] [0, 3, 4] [] [] ⟨[(0, (.v (.sl (List.map GRule.c e52_)), [])), (3, (.v (.int .i64 b53_), [])), (4, (.v (.int .i64 (wr.i64 (b57_ + 1))), []))], [], []⟩ _ (by kernel_rfl) .nil ?_
                      exact ⟨_, Nat.lt_succ_self _, _, rfl, h99⟩
                  · refine Wc.condF h101 (by kernel_rfl) ?_
                    refine Wc.fix (st' := ⟨[(0, (.v (.sl (List.map GRule.c e52_)), [])), (3, (.v (.int .i64 b53_), []))], [], []⟩) [] [0, 3] [] [] (by kernel_rfl) ?_
                    refine Wc.exit ?_
                    obtain rfl := Option.some.inj h99
                    exact ⟨rfl, rfl⟩
              · rintro st ⟨rfl, rfl⟩
                refine Wc.region [] [] [0, 3] [] [] ⟨[(0, (.v (.sl (List.map GRule.c e52_)), [])), (3, (.v (.int .i64 (wr.i64 (b53_ + 1))), []))], [], []⟩ _ (by kernel_rfl) .nil ?_
                exact ⟨_, Nat.lt_succ_self _, _, rfl, h92⟩
        · refine Wc.condF h93 (by kernel_rfl) ?_
          refine Wc.fix (st' := ⟨[(0, (.v (.sl (List.map GRule.c e52_)), []))], [], []⟩) [] [0] [] [] (by kernel_rfl) ?_
          refine Wc.exit ?_
          obtain rfl := Option.some.inj h92
          exact ⟨rfl, rfl⟩
    · rintro st ⟨rfl, rfl⟩
      refine Wc.seq ?_
      refine Wc.seq ?_
      refine Wc.region [] [] [0, 5] [] [] ⟨[(0, (.v (.sl (List.map GRule.c e52_)), [])), (5, (.v (.int .i64 0), []))], [], []⟩ _ (by kernel_rfl) .nil ?_
      obtain ⟨out3, h106, h⟩ := obind h
      refine Wc.lastJ (fun st => out3 = .done () ∧ st = ⟨[], [], []⟩) ?_ ?_
      · refine Wc.block ?_
        refine Wc.loop (fun m st => ∃ (b62_ : Int), st = ⟨[(0, (.v (.sl (List.map GRule.c e52_)), [])), (5, (.v (.int .i64 b62_), []))], [], []⟩ ∧ pspec_RulesOk_L3 k e52_ m b62_ = some out3) ?_ k ⟨_, rfl, h106⟩
        rintro m st ⟨b62_, rfl, h106⟩
        cases m with
        | zero => exact (onone h106).elim
        | succ m =>
          refine Wc.seq ?_
          refine Wc.seq ?_
          refine Wc.region [{}, {}, { v := some (.int .i64 (e52_.length : Int)) }] [] [0, 5, 57] [] [] ⟨[(0, (.v (.sl (List.map GRule.c e52_)), [])), (5, (.v (.int .i64 b62_), [])), (57, (.v (.bool (decide (b62_ < (e52_.length : Int)))), []))], [], []⟩ _ (by kernel_rfl) (.cons (len_obl GRule.c e52_) .nil) ?_
          rcases oif h106 with ⟨h107, h106⟩ | ⟨h107, h106⟩
          · refine Wc.condT h107 (by kernel_rfl) ?_
            refine Wc.fix (st' := ⟨[(0, (.v (.sl (List.map GRule.c e52_)), [])), (5, (.v (.int .i64 b62_), []))], [], []⟩) [] [0, 5] [] [] (by kernel_rfl) ?_
            refine Wc.skip ?_
            refine Wc.seq ?_
            refine Wc.block ?_
            refine Wc.seq ?_
            obtain ⟨d63_, h108, h106⟩ := obind h106
            obtain ⟨j64_, h109, h106⟩ := obind h106
            refine Wc.region [{}, {}, {}, { v := some (.vptr [.str d63_.gName, .sl (List.map GPart.c d63_.gParts)]) }, {}, {}, { c := some (List.map cS []) }, { r := some (.v (.sl (List.map cS j64_)) []) }] [] [0, 5, 6] [] [] ⟨[(0, (.v (.sl (List.map GRule.c e52_)), [])), (5, (.v (.int .i64 b62_), [])), (6, (.v (.sl (List.map cS j64_)), []))], [], []⟩ _ (by kernel_rfl) (.cons (at_obl (c := GRule.c) (GRule.c_eq d63_) GRule.c_len h108) (.cons (len_ok 1 [.str d63_.gName, .sl (List.map GPart.c d63_.gParts)]) (.cons (cl_nil cS) (.cons (cspec_l18Left h109) .nil)))) ?_
            refine Wc.seq ?_
            refine Wc.region [] [] [0, 5, 6, 7] [] [] ⟨[(0, (.v (.sl (List.map GRule.c e52_)), [])), (5, (.v (.int .i64 b62_), [])), (6, (.v (.sl (List.map cS j64_)), [])), (7, (.v (.int .i64 0), []))], [], []⟩ _ (by kernel_rfl) .nil ?_
            obtain ⟨out4, h110, h106⟩ := obind h106
            refine Wc.lastJ (fun st => out4 = .done () ∧ st = ⟨[(0, (.v (.sl (List.map GRule.c e52_)), [])), (5, (.v (.int .i64 b62_), []))], [], []⟩) ?_ ?_
            · refine Wc.block ?_
              refine Wc.loop (fun m st => ∃ (b65_ : Int), st = ⟨[(0, (.v (.sl (List.map GRule.c e52_)), [])), (5, (.v (.int .i64 b62_), [])), (6, (.v (.sl (List.map cS j64_)), [])), (7, (.v (.int .i64 b65_), []))], [], []⟩ ∧ pspec_RulesOk_L4 k j64_ e52_ b62_ m b65_ = some out4) ?_ k ⟨_, rfl, h110⟩
              rintro m st ⟨b65_, rfl, h110⟩
              cases m with
              | zero => exact (onone h110).elim
              | succ m =>
                refine Wc.seq ?_
                refine Wc.seq ?_
                refine Wc.region [{}, {}, { v := some (.int .i64 (j64_.length : Int)) }] [] [0, 5, 6, 7, 71] [] [] ⟨[(0, (.v (.sl (List.map GRule.c e52_)), [])), (5, (.v (.int .i64 b62_), [])), (6, (.v (.sl (List.map cS j64_)), [])), (7, (.v (.int .i64 b65_), [])), (71, (.v (.bool (decide (b65_ < (j64_.length : Int)))), []))], [], []⟩ _ (by kernel_rfl) (.cons (len_obl cS j64_) .nil) ?_
                rcases oif h110 with ⟨h111, h110⟩ | ⟨h111, h110⟩
                · refine Wc.condT h111 (by kernel_rfl) ?_
                  refine Wc.fix (st' := ⟨[(0, (.v (.sl (List.map GRule.c e52_)), [])), (5, (.v (.int .i64 b62_), [])), (6, (.v (.sl (List.map cS j64_)), [])), (7, (.v (.int .i64 b65_), []))], [], []⟩) [] [0, 5, 6, 7] [] [] (by kernel_rfl) ?_
                  refine Wc.skip ?_
                  refine Wc.seq ?_
                  refine Wc.block ?_
                  refine Wc.seq ?_
                  obtain ⟨f66_, h112, h110⟩ := obind h110
                  obtain ⟨d67_, h113, h110⟩ := obind h110
                  refine Wc.draw hmix [{}, {}, { v := some (.vptr [.str f66_]) }, {}, {}, {}, { v := some (.vptr [.str d67_.gName, .sl (List.map GPart.c d67_.gParts)]) }] [] [0, 5, 6, 7, 83] [] [] ⟨[(0, (.v (.sl (List.map GRule.c e52_)), [])), (5, (.v (.int .i64 b62_), [])), (6, (.v (.sl (List.map cS j64_)), [])), (7, (.v (.int .i64 b65_), [])), (83, (.v (.bool (sEq f66_ d67_.gName)), []))], [], []⟩ _ (by kernel_rfl) (fun X => by kernel_rfl) (.cons (at_obl (c := cS) rfl cS_len h112) (.cons (len_ok 1 [.str f66_]) (.cons (at_obl (c := GRule.c) (GRule.c_eq d67_) GRule.c_len h113) (.cons (len_ok 1 [.str d67_.gName, .sl (List.map GPart.c d67_.gParts)]) .nil)))) ?_
                  rcases oif h110 with ⟨h114, h110⟩ | ⟨h114, h110⟩
                  · refine Wc.condT h114 (by kernel_rfl) ?_
                    refine Wc.seq ?_
                    refine Wc.region [] [] [2] [] [] ⟨[(2, (.v (.bool false), []))], [], []⟩ _ (by kernel_rfl) .nil ?_
                    refine Wc.ret ?_
                    obtain rfl := Option.some.inj h110
                    obtain rfl := Option.some.inj h106
                    obtain rfl := Option.some.inj h
                    exact ⟨.inl rfl, by kernel_rfl, by kernel_rfl⟩
                  · refine Wc.condF h114 (by kernel_rfl) ?_
                    refine Wc.fix (st' := ⟨[(0, (.v (.sl (List.map GRule.c e52_)), [])), (5, (.v (.int .i64 b62_), [])), (6, (.v (.sl (List.map cS j64_)), [])), (7, (.v (.int .i64 b65_), []))], [], []⟩) [] [0, 5, 6, 7] [] [] (by kernel_rfl) ?_
                    refine Wc.skip ?_
                    refine Wc.region [] [] [0, 5, 6, 7] [] [] ⟨[(0, (.v (.sl (List.map GRule.c e52_)), [])), (5, (.v (.int .i64 b62_), [])), (6, (.v (.sl (List.map cS j64_)), [])), (7, (.v (.int .i64 (wr.i64 (b65_ + 1))), []))], [], []⟩ _ (by kernel_rfl) .nil ?_
                    exact ⟨_, Nat.lt_succ_self _, _, rfl, h110⟩
                · refine Wc.condF h111 (by kernel_rfl) ?_
                  refine Wc.fix (st' := ⟨[(0, (.v (.sl (List.map GRule.c e52_)), [])), (5, (.v (.int .i64 b62_), []))], [], []⟩) [] [0, 5] [] [] (by kernel_rfl) ?_
                  refine Wc.exit ?_
                  obtain rfl := Option.some.inj h110
                  exact ⟨rfl, rfl⟩
            · rintro st ⟨rfl, rfl⟩
              refine Wc.region [] [] [0, 5] [] [] ⟨[(0, (.v (.sl (List.map GRule.c e52_)), [])), (5, (.v (.int .i64 (wr.i64 (b62_ + 1))), []))], [], []⟩ _ (by kernel_rfl) .nil ?_
              exact ⟨_, Nat.lt_succ_self _, _, rfl, h106⟩
          · refine Wc.condF h107 (by kernel_rfl) ?_
            refine Wc.fix (st' := ⟨[], [], []⟩) [] [] [] [] (by kernel_rfl) ?_
            refine Wc.exit ?_
            obtain rfl := Option.some.inj h106
            exact ⟨rfl, rfl⟩
      · rintro st ⟨rfl, rfl⟩
        refine Wc.seq ?_
        refine Wc.region [] [] [2] [] [] ⟨[(2, (.v (.bool true), []))], [], []⟩ _ (by kernel_rfl) .nil ?_
        refine Wc.ret ?_
        obtain rfl := Option.some.inj h
        exact ⟨.inl rfl, by kernel_rfl, by kernel_rfl⟩

/-- laws.toPart -/
def plaws_toPart (k : Nat) (a68_ : GPart) : Option GPart :=
  some a68_
theorem claws_toPart {k : Nat} {a68_ : GPart} {r : GPart} (h : plaws_toPart k a68_ = some r) : FnO Try.prog 89 [.v (.agg [.bool a68_.gWord, .str a68_.gName]) []] (.v (.agg [.bool r.gWord, .str r.gName]) []) [] := by
  refine FnO.of Try.func89 (rfl : Try.f89.body = some _) (Nat.le_of_ble_eq_true (by kernel_rfl)) (Nat.le_of_ble_eq_true (by kernel_rfl)) ?_
  intro w0 X0 Fin pv0 pb
  unfold plaws_toPart at h
  refine Wc.seq ?_
  refine Wc.region [] [] [1, 2] [1, 2] [] ⟨[(1, (.ptr 1 0, [])), (2, (.ptr 2 0, []))], [(1, .cells [.bool a68_.gWord, .str a68_.gName] []), (2, .cells [.bool false, .str (bs [])] [])], []⟩ _ (by kernel_rfl) .nil ?_
  refine Wc.seq ?_
  refine Wc.region [] [] [1, 2, 3] [1, 2, 3] [] ⟨[(1, (.ptr 1 0, [])), (2, (.ptr 2 0, [])), (3, (.ptr 3 0, []))], [(1, .cells [.bool a68_.gWord, .str a68_.gName] []), (2, .cells [.bool false, .str (bs [])] []), (3, .cells [.bool false, .str (bs [])] [])], []⟩ _ (by kernel_rfl) .nil ?_
  refine Wc.seq ?_
  refine Wc.region [] [] [1, 2, 3] [1, 2, 3] [] ⟨[(1, (.ptr 1 0, [])), (2, (.ptr 2 0, [])), (3, (.ptr 3 0, []))], [(1, .cells [.bool a68_.gWord, .str a68_.gName] []), (2, .cells [.bool false, .str (bs [])] []), (3, .cells [.bool a68_.gWord, .str (bs [])] [])], []⟩ _ (by kernel_rfl) .nil ?_
  refine Wc.seq ?_
  refine Wc.region [] [] [2, 3] [2, 3] [] ⟨[(2, (.ptr 2 0, [])), (3, (.ptr 3 0, []))], [(2, .cells [.bool false, .str (bs [])] []), (3, .cells [.bool a68_.gWord, .str a68_.gName] [])], []⟩ _ (by kernel_rfl) .nil ?_
  refine Wc.seq ?_
  refine Wc.region [] [] [2] [2] [] ⟨[(2, (.ptr 2 0, []))], [(2, .cells [.bool a68_.gWord, .str a68_.gName] [])], []⟩ _ (by kernel_rfl) .nil ?_
  refine Wc.ret ?_
  obtain rfl := Option.some.inj h
  exact ⟨.inl rfl, by kernel_rfl, by kernel_rfl⟩

def plaws_toPartS_L1 (k : Nat) (c69_ : List GPart) : Nat → (List GPart) → Int → Option (Out (List GPart) (List GPart))
  | 0, _, _ => none
  | m + 1, c70_, b71_ =>
    if (decide (b71_ < (c69_.length : Int))) = true then
      (at' c69_ b71_).bind fun a73_ =>
      (plaws_toPart k a73_).bind fun a74_ =>
      (at' c70_ b71_).bind fun a75_ =>
      plaws_toPartS_L1 k c69_ m (c70_.set ((b71_).toNat) a74_) (wr.i64 (b71_ + 1))
    else
      some (.done c70_)
/-- laws.toPartS -/
def plaws_toPartS (k : Nat) (c69_ : List GPart) : Option (List GPart) :=
  if 0 ≤ (c69_.length : Int) ∧ (c69_.length : Int) ≤ 1073741824 then
    (plaws_toPartS_L1 k c69_ k (List.replicate ((c69_.length : Int)).toNat (GPart.mk false (bs []))) 0).bind fun out1 => match out1 with
    | .ret r => some r
    | .done c72_ =>
      some c72_
  else none
theorem claws_toPartS {k : Nat} {c69_ : List GPart} {r : (List GPart)} (h : plaws_toPartS k c69_ = some r) : FnO Try.prog 58 [.v (.sl (List.map GPart.c c69_)) []] (.v (.sl (List.map GPart.c r)) []) [] := by
  refine FnO.of Try.func58 (rfl : Try.f58.body = some _) (Nat.le_of_ble_eq_true (by kernel_rfl)) (Nat.le_of_ble_eq_true (by kernel_rfl)) ?_
  intro w0 X0 Fin pv0 pb
  unfold plaws_toPartS at h
  refine Wc.seq ?_
  refine Wc.region [] [] [0] [] [] ⟨[(0, (.v (.sl (List.map GPart.c c69_)), []))], [], []⟩ _ (by kernel_rfl) .nil ?_
  refine Wc.seq ?_
  obtain ⟨h115, h⟩ := oguard h
  refine Wc.region [{}, { v := some (.int .i64 (c69_.length : Int)) }, { c := some (List.map GPart.c (List.replicate ((c69_.length : Int)).toNat (GPart.mk false (bs [])))) }, { tk := [7] }] [] [0, 3] [] [] ⟨[(0, (.v (.sl (List.map GPart.c c69_)), [])), (3, (.v (.slx), [(0, .ex 106 true (List.map GPart.c (List.replicate ((c69_.length : Int)).toNat (GPart.mk false (bs [])))))]))], [], []⟩ _ (by kernel_rfl) (.cons (len_obl GPart.c c69_) (.cons (rep_re (c := GPart.c) (z := (GPart.mk false (bs []))) (GPart.c_eq (GPart.mk false (bs []))) ((c69_.length : Int)).toNat) (.cons (ms_obl h115) .nil))) ?_
  refine Wc.seq ?_
  refine Wc.seq ?_
  refine Wc.region [] [] [0, 3, 4] [] [] ⟨[(0, (.v (.sl (List.map GPart.c c69_)), [])), (3, (.v (.slx), [(0, .ex 106 true (List.map GPart.c (List.replicate ((c69_.length : Int)).toNat (GPart.mk false (bs [])))))])), (4, (.v (.int .i64 0), []))], [], []⟩ _ (by kernel_rfl) .nil ?_
  obtain ⟨out1, h116, h⟩ := obind h
  refine Wc.lastJ (fun st => ∃ (c72_ : List GPart), out1 = .done c72_ ∧ st = ⟨[(3, (.v (.slx), [(0, .ex 106 true (List.map GPart.c c72_))]))], [], []⟩) ?_ ?_
  · refine Wc.block ?_
    refine Wc.loop (fun m st => ∃ (c70_ : List GPart) (b71_ : Int), st = ⟨[(0, (.v (.sl (List.map GPart.c c69_)), [])), (3, (.v (.slx), [(0, .ex 106 true (List.map GPart.c c70_))])), (4, (.v (.int .i64 b71_), []))], [], []⟩ ∧ plaws_toPartS_L1 k c69_ m c70_ b71_ = some out1) ?_ k ⟨_, _, rfl, h116⟩
    rintro m st ⟨c70_, b71_, rfl, h116⟩
    cases m with
    | zero => exact (onone h116).elim
    | succ m =>
      refine Wc.seq ?_
      refine Wc.seq ?_
      refine Wc.region [{}, {}, { v := some (.int .i64 (c69_.length : Int)) }] [] [0, 3, 4, 11] [] [] ⟨[(0, (.v (.sl (List.map GPart.c c69_)), [])), (3, (.v (.slx), [(0, .ex 106 true (List.map GPart.c c70_))])), (4, (.v (.int .i64 b71_), [])), (11, (.v (.bool (decide (b71_ < (c69_.length : Int)))), []))], [], []⟩ _ (by kernel_rfl) (.cons (len_obl GPart.c c69_) .nil) ?_
      rcases oif h116 with ⟨h117, h116⟩ | ⟨h117, h116⟩
      · refine Wc.condT h117 (by kernel_rfl) ?_
        refine Wc.fix (st' := ⟨[(0, (.v (.sl (List.map GPart.c c69_)), [])), (3, (.v (.slx), [(0, .ex 106 true (List.map GPart.c c70_))])), (4, (.v (.int .i64 b71_), []))], [], []⟩) [] [0, 3, 4] [] [] (by kernel_rfl) ?_
        refine Wc.skip ?_
        refine Wc.seq ?_
        refine Wc.block ?_
        obtain ⟨a73_, h118, h116⟩ := obind h116
        obtain ⟨a74_, h119, h116⟩ := obind h116
        obtain ⟨a75_, h120, h116⟩ := obind h116
        refine Wc.region [{}, {}, {}, {}, { v := some (.vptr [.bool a73_.gWord, .str a73_.gName]) }, {}, { r := some (.v (.agg [.bool a74_.gWord, .str a74_.gName]) []) }, {}, { c := some (List.map GPart.c (c70_.set ((b71_).toNat) a74_)) }] [] [0, 3, 4] [] [] ⟨[(0, (.v (.sl (List.map GPart.c c69_)), [])), (3, (.v (.slx), [(0, .ex 106 true (List.map GPart.c (c70_.set ((b71_).toNat) a74_)))])), (4, (.v (.int .i64 b71_), []))], [], []⟩ _ (by kernel_rfl) (.cons (at_obl (c := GPart.c) (GPart.c_eq a73_) GPart.c_len h118) (.cons (len_ok 2 [.bool a73_.gWord, .str a73_.gName]) (.cons (claws_toPart h119) (.cons (ix_obl (c := GPart.c) GPart.c_len h120) (.cons (mod_obl (off := 0) (new := [.bool a74_.gWord, .str a74_.gName]) (c := GPart.c) (GPart.c_eq a75_) (GPart.c_eq a74_) (at'_spec h120).2 rfl) (.cons (st_obl (sz := 2) (off := 0) (s := 2) (c := GPart.c) (GPart.c_eq a75_) (at'_spec h120).2 rfl (Nat.le_of_ble_eq_true rfl)) .nil)))))) ?_
        refine Wc.region [] [] [0, 3, 4] [] [] ⟨[(0, (.v (.sl (List.map GPart.c c69_)), [])), (3, (.v (.slx), [(0, .ex 106 true (List.map GPart.c (c70_.set ((b71_).toNat) a74_)))])), (4, (.v (.int .i64 (wr.i64 (b71_ + 1))), []))], [], []⟩ _ (by kernel_rfl) .nil ?_
        exact ⟨_, Nat.lt_succ_self _, _, _, rfl, h116⟩
      · refine Wc.condF h117 (by kernel_rfl) ?_
        refine Wc.fix (st' := ⟨[(3, (.v (.slx), [(0, .ex 106 true (List.map GPart.c c70_))]))], [], []⟩) [] [3] [] [] (by kernel_rfl) ?_
        refine Wc.exit ?_
        obtain rfl := Option.some.inj h116
        exact ⟨_, rfl, rfl⟩
  · rintro st ⟨c72_, rfl, rfl⟩
    refine Wc.seq ?_
    refine Wc.region [{ tk := [3] }, { tk := [22] }] [] [2] [] [] ⟨[(2, (.v (.slx), [(0, .ex 106 true (List.map GPart.c c72_))]))], [], []⟩ _ (by kernel_rfl) .nil ?_
    refine Wc.fix (st' := ⟨[(2, (.v (.sl (List.map GPart.c c72_)), []))], [], []⟩) [.sh (.t 2 0)] [2] [] [] (by kernel_rfl) ?_
    refine Wc.ret ?_
    obtain rfl := Option.some.inj h
    exact ⟨.inl rfl, by kernel_rfl, by kernel_rfl⟩

/-- laws.toRule -/
def plaws_toRule (k : Nat) (d76_ : GRule) : Option GRule :=
  (plaws_toPartS k d76_.gParts).bind fun l77_ =>
  some (GRule.mk d76_.gName l77_)
theorem claws_toRule {k : Nat} {d76_ : GRule} {r : GRule} (h : plaws_toRule k d76_ = some r) : FnO Try.prog 16 [.v (.agg [.str d76_.gName, .sl (List.map GPart.c d76_.gParts)]) []] (.v (.agg [.str r.gName, .sl (List.map GPart.c r.gParts)]) []) [] := by
  refine FnO.of Try.func16 (rfl : Try.f16.body = some _) (Nat.le_of_ble_eq_true (by kernel_rfl)) (Nat.le_of_ble_eq_true (by kernel_rfl)) ?_
  intro w0 X0 Fin pv0 pb
  unfold plaws_toRule at h
  refine Wc.seq ?_
  refine Wc.region [] [] [1, 2] [1, 2] [] ⟨[(1, (.ptr 1 0, [])), (2, (.ptr 2 0, []))], [(1, .cells [.str d76_.gName, .sl (List.map GPart.c d76_.gParts)] []), (2, .cells [.str (bs []), .sl (List.map GPart.c [])] [(1, .app 106)])], []⟩ _ (by kernel_rfl) .nil ?_
  refine Wc.seq ?_
  refine Wc.region [] [] [1, 2, 3] [1, 2, 3] [] ⟨[(1, (.ptr 1 0, [])), (2, (.ptr 2 0, [])), (3, (.ptr 3 0, []))], [(1, .cells [.str d76_.gName, .sl (List.map GPart.c d76_.gParts)] []), (2, .cells [.str (bs []), .sl (List.map GPart.c [])] [(1, .app 106)]), (3, .cells [.str (bs []), .sl (List.map GPart.c [])] [(1, .app 106)])], []⟩ _ (by kernel_rfl) .nil ?_
  refine Wc.seq ?_
  refine Wc.region [] [] [1, 2, 3] [1, 2, 3] [] ⟨[(1, (.ptr 1 0, [])), (2, (.ptr 2 0, [])), (3, (.ptr 3 0, []))], [(1, .cells [.str d76_.gName, .sl (List.map GPart.c d76_.gParts)] []), (2, .cells [.str (bs []), .sl (List.map GPart.c [])] [(1, .app 106)]), (3, .cells [.str d76_.gName, .sl (List.map GPart.c [])] [(1, .app 106)])], []⟩ _ (by kernel_rfl) .nil ?_
  refine Wc.seq ?_
  obtain ⟨l77_, h121, h⟩ := obind h
  refine Wc.region [{}, {}, { r := some (.v (.sl (List.map GPart.c l77_)) []) }] [] [2, 3] [2, 3] [] ⟨[(2, (.ptr 2 0, [])), (3, (.ptr 3 0, []))], [(2, .cells [.str (bs []), .sl (List.map GPart.c [])] [(1, .app 106)]), (3, .cells [.str d76_.gName, .sl (List.map GPart.c l77_)] [])], []⟩ _ (by kernel_rfl) (.cons (claws_toPartS h121) .nil) ?_
  refine Wc.seq ?_
  refine Wc.region [] [] [2] [2] [] ⟨[(2, (.ptr 2 0, []))], [(2, .cells [.str d76_.gName, .sl (List.map GPart.c l77_)] [])], []⟩ _ (by kernel_rfl) .nil ?_
  refine Wc.ret ?_
  obtain rfl := Option.some.inj h
  exact ⟨.inl rfl, by kernel_rfl, by kernel_rfl⟩

def plaws_toRuleS_L1 (k : Nat) (e78_ : List GRule) : Nat → (List GRule) → Int → Option (Out (List GRule) (List GRule))
  | 0, _, _ => none
  | m + 1, e79_, b80_ =>
    if (decide (b80_ < (e78_.length : Int))) = true then
      (at' e78_ b80_).bind fun d82_ =>
      (plaws_toRule k d82_).bind fun d83_ =>
      (at' e79_ b80_).bind fun d84_ =>
      plaws_toRuleS_L1 k e78_ m (e79_.set ((b80_).toNat) d83_) (wr.i64 (b80_ + 1))
    else
      some (.done e79_)
/-- laws.toRuleS -/
def plaws_toRuleS (k : Nat) (e78_ : List GRule) : Option (List GRule) :=
  if 0 ≤ (e78_.length : Int) ∧ (e78_.length : Int) ≤ 1073741824 then
    (plaws_toRuleS_L1 k e78_ k (List.replicate ((e78_.length : Int)).toNat (GRule.mk (bs []) [])) 0).bind fun out1 => match out1 with
    | .ret r => some r
    | .done e81_ =>
      some e81_
  else none
theorem claws_toRuleS {k : Nat} {e78_ : List GRule} {r : (List GRule)} (h : plaws_toRuleS k e78_ = some r) : FnO Try.prog 30 [.v (.sl (List.map GRule.c e78_)) []] (.v (.sl (List.map GRule.c r)) []) [] := by
  refine FnO.of Try.func30 (rfl : Try.f30.body = some _) (Nat.le_of_ble_eq_true (by kernel_rfl)) (Nat.le_of_ble_eq_true (by kernel_rfl)) ?_
  intro w0 X0 Fin pv0 pb
  unfold plaws_toRuleS at h
  refine Wc.seq ?_
  refine Wc.region [] [] [0] [] [] ⟨[(0, (.v (.sl (List.map GRule.c e78_)), []))], [], []⟩ _ (by kernel_rfl) .nil ?_
  refine Wc.seq ?_
  obtain ⟨h122, h⟩ := oguard h
  refine Wc.region [{}, { v := some (.int .i64 (e78_.length : Int)) }, { c := some (List.map GRule.c (List.replicate ((e78_.length : Int)).toNat (GRule.mk (bs []) []))) }, { tk := [7], fx := [.ag (.t 7 0)] }] [] [0, 3] [] [] ⟨[(0, (.v (.sl (List.map GRule.c e78_)), [])), (3, (.v (.slx), [(0, .ex 44 false (List.map GRule.c (List.replicate ((e78_.length : Int)).toNat (GRule.mk (bs []) []))))]))], [], []⟩ _ (by kernel_rfl) (.cons (len_obl GRule.c e78_) (.cons (rep_re (c := GRule.c) (z := (GRule.mk (bs []) [])) (GRule.c_eq (GRule.mk (bs []) [])) ((e78_.length : Int)).toNat) (.cons (ms_obl h122) .nil))) ?_
  refine Wc.seq ?_
  refine Wc.seq ?_
  refine Wc.region [] [] [0, 3, 4] [] [] ⟨[(0, (.v (.sl (List.map GRule.c e78_)), [])), (3, (.v (.slx), [(0, .ex 44 false (List.map GRule.c (List.replicate ((e78_.length : Int)).toNat (GRule.mk (bs []) []))))])), (4, (.v (.int .i64 0), []))], [], []⟩ _ (by kernel_rfl) .nil ?_
  obtain ⟨out1, h123, h⟩ := obind h
  refine Wc.lastJ (fun st => ∃ (e81_ : List GRule), out1 = .done e81_ ∧ st = ⟨[(3, (.v (.slx), [(0, .ex 44 false (List.map GRule.c e81_))]))], [], []⟩) ?_ ?_
  · refine Wc.block ?_
    refine Wc.loop (fun m st => ∃ (e79_ : List GRule) (b80_ : Int), st = ⟨[(0, (.v (.sl (List.map GRule.c e78_)), [])), (3, (.v (.slx), [(0, .ex 44 false (List.map GRule.c e79_))])), (4, (.v (.int .i64 b80_), []))], [], []⟩ ∧ plaws_toRuleS_L1 k e78_ m e79_ b80_ = some out1) ?_ k ⟨_, _, rfl, h123⟩
    rintro m st ⟨e79_, b80_, rfl, h123⟩
    cases m with
    | zero => exact (onone h123).elim
    | succ m =>
      refine Wc.seq ?_
      refine Wc.seq ?_
      refine Wc.region [{}, {}, { v := some (.int .i64 (e78_.length : Int)) }] [] [0, 3, 4, 11] [] [] ⟨[(0, (.v (.sl (List.map GRule.c e78_)), [])), (3, (.v (.slx), [(0, .ex 44 false (List.map GRule.c e79_))])), (4, (.v (.int .i64 b80_), [])), (11, (.v (.bool (decide (b80_ < (e78_.length : Int)))), []))], [], []⟩ _ (by kernel_rfl) (.cons (len_obl GRule.c e78_) .nil) ?_
      rcases oif h123 with ⟨h124, h123⟩ | ⟨h124, h123⟩
      · refine Wc.condT h124 (by kernel_rfl) ?_
        refine Wc.fix (st' := ⟨[(0, (.v (.sl (List.map GRule.c e78_)), [])), (3, (.v (.slx), [(0, .ex 44 false (List.map GRule.c e79_))])), (4, (.v (.int .i64 b80_), []))], [], []⟩) [] [0, 3, 4] [] [] (by kernel_rfl) ?_
        refine Wc.skip ?_
        refine Wc.seq ?_
        refine Wc.block ?_
        obtain ⟨d82_, h125, h123⟩ := obind h123
        obtain ⟨d83_, h126, h123⟩ := obind h123
        obtain ⟨d84_, h127, h123⟩ := obind h123
        refine Wc.region [{}, {}, {}, {}, { v := some (.vptr [.str d82_.gName, .sl (List.map GPart.c d82_.gParts)]) }, {}, { r := some (.v (.agg [.str d83_.gName, .sl (List.map GPart.c d83_.gParts)]) []) }, {}, { c := some (List.map GRule.c (e79_.set ((b80_).toNat) d83_)) }] [] [0, 3, 4] [] [] ⟨[(0, (.v (.sl (List.map GRule.c e78_)), [])), (3, (.v (.slx), [(0, .ex 44 false (List.map GRule.c (e79_.set ((b80_).toNat) d83_)))])), (4, (.v (.int .i64 b80_), []))], [], []⟩ _ (by kernel_rfl) (.cons (at_obl (c := GRule.c) (GRule.c_eq d82_) GRule.c_len h125) (.cons (len_ok 2 [.str d82_.gName, .sl (List.map GPart.c d82_.gParts)]) (.cons (claws_toRule h126) (.cons (ix_obl (c := GRule.c) GRule.c_len h127) (.cons (mod_obl (off := 0) (new := [.str d83_.gName, .sl (List.map GPart.c d83_.gParts)]) (c := GRule.c) (GRule.c_eq d84_) (GRule.c_eq d83_) (at'_spec h127).2 rfl) (.cons (st_obl (sz := 2) (off := 0) (s := 2) (c := GRule.c) (GRule.c_eq d84_) (at'_spec h127).2 rfl (Nat.le_of_ble_eq_true rfl)) .nil)))))) ?_
        refine Wc.region [] [] [0, 3, 4] [] [] ⟨[(0, (.v (.sl (List.map GRule.c e78_)), [])), (3, (.v (.slx), [(0, .ex 44 false (List.map GRule.c (e79_.set ((b80_).toNat) d83_)))])), (4, (.v (.int .i64 (wr.i64 (b80_ + 1))), []))], [], []⟩ _ (by kernel_rfl) .nil ?_
        exact ⟨_, Nat.lt_succ_self _, _, _, rfl, h123⟩
      · refine Wc.condF h124 (by kernel_rfl) ?_
        refine Wc.fix (st' := ⟨[(3, (.v (.slx), [(0, .ex 44 false (List.map GRule.c e79_))]))], [], []⟩) [] [3] [] [] (by kernel_rfl) ?_
        refine Wc.exit ?_
        obtain rfl := Option.some.inj h123
        exact ⟨_, rfl, rfl⟩
  · rintro st ⟨e81_, rfl, rfl⟩
    refine Wc.seq ?_
    refine Wc.region [{ tk := [3] }, { tk := [22] }] [] [2] [] [] ⟨[(2, (.v (.slx), [(0, .ex 44 false (List.map GRule.c e81_))]))], [], []⟩ _ (by kernel_rfl) .nil ?_
    refine Wc.fix (st' := ⟨[(2, (.v (.sl (List.map GRule.c e81_)), []))], [], []⟩) [.sh (.t 2 0)] [2] [] [] (by kernel_rfl) ?_
    refine Wc.ret ?_
    obtain rfl := Option.some.inj h
    exact ⟨.inl rfl, by kernel_rfl, by kernel_rfl⟩

/-- impl.within -/
def pimpl_within (k : Nat) (b85_ : Int) (b86_ : Int) (b87_ : Int) : Option Bool :=
  if (decide (b85_ ≥ b86_)) = true then
    some (decide (b85_ ≤ b87_))
  else
    some false
theorem cimpl_within {k : Nat} {b85_ : Int} {b86_ : Int} {b87_ : Int} {r : Bool} (h : pimpl_within k b85_ b86_ b87_ = some r) : FnO Try.prog 50 [.v (.int .i64 b85_) [], .v (.int .i64 b86_) [], .v (.int .i64 b87_) []] (.v (.bool r) []) [] := by
  refine FnO.of Try.func50 (rfl : Try.f50.body = some _) (Nat.le_of_ble_eq_true (by kernel_rfl)) (Nat.le_of_ble_eq_true (by kernel_rfl)) ?_
  intro w0 X0 Fin pv0 pb
  unfold pimpl_within at h
  refine Wc.seq ?_
  refine Wc.region [] [] [0, 1, 2] [] [] ⟨[(0, (.v (.int .i64 b85_), [])), (1, (.v (.int .i64 b86_), [])), (2, (.v (.int .i64 b87_), []))], [], []⟩ _ (by kernel_rfl) .nil ?_
  refine Wc.seq ?_
  rcases oif h with ⟨h128, h⟩ | ⟨h128, h⟩
  · refine Wc.region [{}, {}, {}, { re := some (.bool true) }] [] [6] [] [] ⟨[(6, (.v (.bool (decide (b85_ ≤ b87_))), []))], [], []⟩ _ (by kernel_rfl) (.cons (congrArg AV.bool h128) .nil) ?_
    refine Wc.ret ?_
    obtain rfl := Option.some.inj h
    exact ⟨.inl rfl, by kernel_rfl, by kernel_rfl⟩
  · refine Wc.region [{}, {}, {}, { re := some (.bool false) }] [] [6] [] [] ⟨[(6, (.v (.bool false), []))], [], []⟩ _ (by kernel_rfl) (.cons (congrArg AV.bool h128) .nil) ?_
    refine Wc.ret ?_
    obtain rfl := Option.some.inj h
    exact ⟨.inl rfl, by kernel_rfl, by kernel_rfl⟩

/-- impl.lower -/
def pimpl_lower (k : Nat) (b88_ : Int) : Option Bool :=
  if (decide (b88_ ≥ 97)) = true then
    some (decide (b88_ ≤ 122))
  else
    some false
theorem cimpl_lower {k : Nat} {b88_ : Int} {r : Bool} (h : pimpl_lower k b88_ = some r) : FnO Try.prog 111 [.v (.int .u8 b88_) []] (.v (.bool r) []) [] := by
  refine FnO.of Try.func111 (rfl : Try.f111.body = some _) (Nat.le_of_ble_eq_true (by kernel_rfl)) (Nat.le_of_ble_eq_true (by kernel_rfl)) ?_
  intro w0 X0 Fin pv0 pb
  unfold pimpl_lower at h
  refine Wc.seq ?_
  refine Wc.region [] [] [0] [] [] ⟨[(0, (.v (.int .u8 b88_), []))], [], []⟩ _ (by kernel_rfl) .nil ?_
  refine Wc.seq ?_
  rcases oif h with ⟨h129, h⟩ | ⟨h129, h⟩
  · refine Wc.region [{}, {}, { re := some (.bool true) }] [] [2] [] [] ⟨[(2, (.v (.bool (decide (b88_ ≤ 122))), []))], [], []⟩ _ (by kernel_rfl) (.cons (congrArg AV.bool h129) .nil) ?_
    refine Wc.ret ?_
    obtain rfl := Option.some.inj h
    exact ⟨.inl rfl, by kernel_rfl, by kernel_rfl⟩
  · refine Wc.region [{}, {}, { re := some (.bool false) }] [] [2] [] [] ⟨[(2, (.v (.bool false), []))], [], []⟩ _ (by kernel_rfl) (.cons (congrArg AV.bool h129) .nil) ?_
    refine Wc.ret ?_
    obtain rfl := Option.some.inj h
    exact ⟨.inl rfl, by kernel_rfl, by kernel_rfl⟩

def pimpl_run_on2_pimpl_lower_L1 (k : Nat) (f91_ : ByteArray) : Nat → Int → Option (Out Int Int)
  | 0, _ => none
  | m + 1, b93_ =>
    if (decide (b93_ < (f91_.size : Int))) = true then
      if 0 ≤ b93_ ∧ (b93_).toNat < f91_.size then
        (pimpl_lower k (bt f91_ b93_)).bind fun g95_ =>
        if g95_ = true then
          pimpl_run_on2_pimpl_lower_L1 k f91_ m (wr.i64 (b93_ + 1))
        else
          some (.done b93_)
      else none
    else
      some (.done b93_)
/-- impl.run -/
def pimpl_run_on2_pimpl_lower (k : Nat) (f91_ : ByteArray) (b92_ : Int) : Option Int :=
  (pimpl_run_on2_pimpl_lower_L1 k f91_ k b92_).bind fun out1 => match out1 with
  | .ret r => some r
  | .done b94_ =>
    some b94_
theorem cimpl_run_on2_pimpl_lower {k : Nat} {f91_ : ByteArray} {b92_ : Int} {r : Int} (h : pimpl_run_on2_pimpl_lower k f91_ b92_ = some r) : FnO Try.prog 110 [.v (.str f91_) [], .v (.int .i64 b92_) [], .v (.func 111 []) []] (.v (.int .i64 r) []) [] := by
  refine FnO.of Try.func110 (rfl : Try.f110.body = some _) (Nat.le_of_ble_eq_true (by kernel_rfl)) (Nat.le_of_ble_eq_true (by kernel_rfl)) ?_
  intro w0 X0 Fin pv0 pb
  unfold pimpl_run_on2_pimpl_lower at h
  refine Wc.seq ?_
  refine Wc.region [] [] [0, 1, 2] [] [] ⟨[(0, (.v (.str f91_), [])), (1, (.v (.int .i64 b92_), [])), (2, (.v (.func 111 []), []))], [], []⟩ _ (by kernel_rfl) .nil ?_
  obtain ⟨out1, h132, h⟩ := obind h
  refine Wc.seqJ (fun st => ∃ (b94_ : Int), out1 = .done b94_ ∧ st = ⟨[(1, (.v (.int .i64 b94_), []))], [], []⟩) ?_ ?_
  · refine Wc.block ?_
    refine Wc.loop (fun m st => ∃ (b93_ : Int), st = ⟨[(0, (.v (.str f91_), [])), (1, (.v (.int .i64 b93_), [])), (2, (.v (.func 111 []), []))], [], []⟩ ∧ pimpl_run_on2_pimpl_lower_L1 k f91_ m b93_ = some out1) ?_ k ⟨_, rfl, h132⟩
    rintro m st ⟨b93_, rfl, h132⟩
    cases m with
    | zero => exact (onone h132).elim
    | succ m =>
      refine Wc.seq ?_
      refine Wc.seq ?_
      rcases oif h132 with ⟨h133, h132⟩ | ⟨h133, h132⟩
      · obtain ⟨h134, h132⟩ := oguard h132
        obtain ⟨g95_, h135, h132⟩ := obind h132
        refine Wc.region [{}, {}, {}, {}, { re := some (.bool true) }, {}, {}, {}, {}, { r := some (.v (.bool g95_) []) }] [] [0, 1, 2, 17] [] [] ⟨[(0, (.v (.str f91_), [])), (1, (.v (.int .i64 b93_), [])), (2, (.v (.func 111 []), [])), (17, (.v (.bool g95_), []))], [], []⟩ _ (by kernel_rfl) (.cons (congrArg AV.bool h133) (.cons h134 (.cons (cimpl_lower h135) .nil))) ?_
        rcases oif h132 with ⟨h136, h132⟩ | ⟨h136, h132⟩
        · refine Wc.condT h136 (by kernel_rfl) ?_
          refine Wc.fix (st' := ⟨[(0, (.v (.str f91_), [])), (1, (.v (.int .i64 b93_), [])), (2, (.v (.func 111 []), []))], [], []⟩) [] [0, 1, 2] [] [] (by kernel_rfl) ?_
          refine Wc.skip ?_
          refine Wc.block ?_
          refine Wc.region [] [] [0, 1, 2] [] [] ⟨[(0, (.v (.str f91_), [])), (1, (.v (.int .i64 (wr.i64 (b93_ + 1))), [])), (2, (.v (.func 111 []), []))], [], []⟩ _ (by kernel_rfl) .nil ?_
          exact ⟨_, Nat.lt_succ_self _, _, rfl, h132⟩
        · refine Wc.condF h136 (by kernel_rfl) ?_
          refine Wc.fix (st' := ⟨[(1, (.v (.int .i64 b93_), []))], [], []⟩) [] [1] [] [] (by kernel_rfl) ?_
          refine Wc.exit ?_
          obtain rfl := Option.some.inj h132
          exact ⟨_, rfl, rfl⟩
      · refine Wc.region [{}, {}, {}, {}, { re := some (.bool false) }] [] [0, 1, 2, 17] [] [] ⟨[(0, (.v (.str f91_), [])), (1, (.v (.int .i64 b93_), [])), (2, (.v (.func 111 []), [])), (17, (.v (.bool false), []))], [], []⟩ _ (by kernel_rfl) (.cons (congrArg AV.bool h133) .nil) ?_
        refine Wc.condF rfl (by kernel_rfl) ?_
        refine Wc.fix (st' := ⟨[(1, (.v (.int .i64 b93_), []))], [], []⟩) [] [1] [] [] (by kernel_rfl) ?_
        refine Wc.exit ?_
        obtain rfl := Option.some.inj h132
        exact ⟨_, rfl, rfl⟩
  · rintro st ⟨b94_, rfl, rfl⟩
    refine Wc.seq ?_
    refine Wc.region [] [] [6] [] [] ⟨[(6, (.v (.int .i64 b94_), []))], [], []⟩ _ (by kernel_rfl) .nil ?_
    refine Wc.ret ?_
    obtain rfl := Option.some.inj h
    exact ⟨.inl rfl, by kernel_rfl, by kernel_rfl⟩

/-- impl.fileName -/
def pimpl_fileName (k : Nat) (f89_ : ByteArray) : Option Bool :=
  (pimpl_within k (f89_.size : Int) 1 8).bind fun g90_ =>
  if g90_ = true then
    (pimpl_run_on2_pimpl_lower k f89_ 0).bind fun b96_ =>
    some (b96_ == (f89_.size : Int))
  else
    some false
theorem cimpl_fileName {k : Nat} {f89_ : ByteArray} {r : Bool} (h : pimpl_fileName k f89_ = some r) : FnO Try.prog 96 [.v (.str f89_) []] (.v (.bool r) []) [] := by
  refine FnO.of Try.func96 (rfl : Try.f96.body = some _) (Nat.le_of_ble_eq_true (by kernel_rfl)) (Nat.le_of_ble_eq_true (by kernel_rfl)) ?_
  intro w0 X0 Fin pv0 pb
  unfold pimpl_fileName at h
  refine Wc.seq ?_
  refine Wc.region [] [] [0] [] [] ⟨[(0, (.v (.str f89_), []))], [], []⟩ _ (by kernel_rfl) .nil ?_
  refine Wc.seq ?_
  obtain ⟨g90_, h130, h⟩ := obind h
  rcases oif h with ⟨h131, h⟩ | ⟨h131, h⟩
  · obtain ⟨b96_, h137, h⟩ := obind h
    refine Wc.region [{}, {}, { r := some (.v (.bool g90_) []) }, { re := some (.bool true) }, {}, { r := some (.v (.int .i64 b96_) []) }] [] [2] [] [] ⟨[(2, (.v (.bool (b96_ == (f89_.size : Int))), []))], [], []⟩ _ (by kernel_rfl) (.cons (cimpl_within h130) (.cons (congrArg AV.bool h131) (.cons (cimpl_run_on2_pimpl_lower h137) .nil))) ?_
    refine Wc.ret ?_
    obtain rfl := Option.some.inj h
    exact ⟨.inl rfl, by kernel_rfl, by kernel_rfl⟩
  · refine Wc.region [{}, {}, { r := some (.v (.bool g90_) []) }, { re := some (.bool false) }] [] [2] [] [] ⟨[(2, (.v (.bool false), []))], [], []⟩ _ (by kernel_rfl) (.cons (cimpl_within h130) (.cons (congrArg AV.bool h131) .nil)) ?_
    refine Wc.ret ?_
    obtain rfl := Option.some.inj h
    exact ⟨.inl rfl, by kernel_rfl, by kernel_rfl⟩

def pslices_Index___string_string__L1 (k : Nat) (i92_ : List ByteArray) (f93_ : ByteArray) : Nat → Int → Option (Out Int Unit)
  | 0, _ => none
  | m + 1, b94_ =>
    if (decide (b94_ < (i92_.length : Int))) = true then
      (at' i92_ b94_).bind fun f95_ =>
      if (sEq f93_ f95_) = true then
        some (.ret b94_)
      else
        pslices_Index___string_string__L1 k i92_ f93_ m (wr.i64 (b94_ + 1))
    else
      some (.done ())
/-- slices.Index[[]string,string] -/
def pslices_Index___string_string_ (k : Nat) (i92_ : List ByteArray) (f93_ : ByteArray) : Option Int :=
  (pslices_Index___string_string__L1 k i92_ f93_ k 0).bind fun out1 => match out1 with
  | .ret r => some r
  | .done () =>
    some (-1)
theorem cslices_Index___string_string_ {k : Nat} {i92_ : List ByteArray} {f93_ : ByteArray} {r : Int} (h : pslices_Index___string_string_ k i92_ f93_ = some r) : FnO Try.prog 98 [.v (.sl (List.map cS i92_)) [], .v (.str f93_) []] (.v (.int .i64 r) []) [] := by
  refine FnO.of Try.func98 (rfl : Try.f98.body = some _) (Nat.le_of_ble_eq_true (by kernel_rfl)) (Nat.le_of_ble_eq_true (by kernel_rfl)) ?_
  intro w0 X0 Fin pv0 pb
  unfold pslices_Index___string_string_ at h
  refine Wc.seq ?_
  refine Wc.region [] [] [0, 1] [] [] ⟨[(0, (.v (.sl (List.map cS i92_)), [])), (1, (.v (.str f93_), []))], [], []⟩ _ (by kernel_rfl) .nil ?_
  refine Wc.seq ?_
  refine Wc.seq ?_
  refine Wc.region [{}, { v := some (.int .i64 (i92_.length : Int)) }] [] [0, 1, 7, 8] [] [] ⟨[(0, (.v (.sl (List.map cS i92_)), [])), (1, (.v (.str f93_), [])), (7, (.v (.int .i64 (i92_.length : Int)), [])), (8, (.v (.int .i64 0), []))], [], []⟩ _ (by kernel_rfl) (.cons (len_obl cS i92_) .nil) ?_
  obtain ⟨out1, h133, h⟩ := obind h
  refine Wc.lastJ (fun st => out1 = .done () ∧ st = ⟨[], [], []⟩) ?_ ?_
  · refine Wc.block ?_
    refine Wc.loop (fun m st => ∃ (b94_ : Int), st = ⟨[(0, (.v (.sl (List.map cS i92_)), [])), (1, (.v (.str f93_), [])), (7, (.v (.int .i64 (i92_.length : Int)), [])), (8, (.v (.int .i64 b94_), []))], [], []⟩ ∧ pslices_Index___string_string__L1 k i92_ f93_ m b94_ = some out1) ?_ k ⟨_, rfl, h133⟩
    rintro m st ⟨b94_, rfl, h133⟩
    cases m with
    | zero => exact (onone h133).elim
    | succ m =>
      refine Wc.seq ?_
      refine Wc.region [] [] [0, 1, 7, 8, 9] [] [] ⟨[(0, (.v (.sl (List.map cS i92_)), [])), (1, (.v (.str f93_), [])), (7, (.v (.int .i64 (i92_.length : Int)), [])), (8, (.v (.int .i64 b94_), [])), (9, (.v (.bool (decide (b94_ < (i92_.length : Int)))), []))], [], []⟩ _ (by kernel_rfl) .nil ?_
      refine Wc.seq ?_
      rcases oif h133 with ⟨h134, h133⟩ | ⟨h134, h133⟩
      · refine Wc.condT h134 (by kernel_rfl) ?_
        refine Wc.fix (st' := ⟨[(0, (.v (.sl (List.map cS i92_)), [])), (1, (.v (.str f93_), [])), (7, (.v (.int .i64 (i92_.length : Int)), [])), (8, (.v (.int .i64 b94_), []))], [], []⟩) [] [0, 1, 7, 8] [] [] (by kernel_rfl) ?_
        refine Wc.skip ?_
        refine Wc.seq ?_
        refine Wc.block ?_
        refine Wc.seq ?_
        refine Wc.region [] [] [0, 1, 5, 7, 8] [] [] ⟨[(0, (.v (.sl (List.map cS i92_)), [])), (1, (.v (.str f93_), [])), (5, (.v (.int .i64 b94_), [])), (7, (.v (.int .i64 (i92_.length : Int)), [])), (8, (.v (.int .i64 b94_), []))], [], []⟩ _ (by kernel_rfl) .nil ?_
        refine Wc.seq ?_
        obtain ⟨f95_, h135, h133⟩ := obind h133
        refine Wc.region [{}, {}, {}, { v := some (.vptr [.str f95_]) }] [] [0, 1, 5, 7, 8, 16] [] [] ⟨[(0, (.v (.sl (List.map cS i92_)), [])), (1, (.v (.str f93_), [])), (5, (.v (.int .i64 b94_), [])), (7, (.v (.int .i64 (i92_.length : Int)), [])), (8, (.v (.int .i64 b94_), [])), (16, (.v (.bool (sEq f93_ f95_)), []))], [], []⟩ _ (by kernel_rfl) (.cons (at_obl (c := cS) rfl cS_len h135) (.cons (len_ok 1 [.str f95_]) .nil)) ?_
        rcases oif h133 with ⟨h136, h133⟩ | ⟨h136, h133⟩
        · refine Wc.condT h136 (by kernel_rfl) ?_
          refine Wc.seq ?_
          refine Wc.region [] [] [4] [] [] ⟨[(4, (.v (.int .i64 b94_), []))], [], []⟩ _ (by kernel_rfl) .nil ?_
          refine Wc.ret ?_
          obtain rfl := Option.some.inj h133
          obtain rfl := Option.some.inj h
          exact ⟨.inl rfl, by kernel_rfl, by kernel_rfl⟩
        · refine Wc.condF h136 (by kernel_rfl) ?_
          refine Wc.fix (st' := ⟨[(0, (.v (.sl (List.map cS i92_)), [])), (1, (.v (.str f93_), [])), (7, (.v (.int .i64 (i92_.length : Int)), [])), (8, (.v (.int .i64 b94_), []))], [], []⟩) [] [0, 1, 7, 8] [] [] (by kernel_rfl) ?_
          refine Wc.skip ?_
          refine Wc.region [] [] [0, 1, 7, 8] [] [] ⟨[(0, (.v (.sl (List.map cS i92_)), [])), (1, (.v (.str f93_), [])), (7, (.v (.int .i64 (i92_.length : Int)), [])), (8, (.v (.int .i64 (wr.i64 (b94_ + 1))), []))], [], []⟩ _ (by kernel_rfl) .nil ?_
          exact ⟨_, Nat.lt_succ_self _, _, rfl, h133⟩
      · refine Wc.condF h134 (by kernel_rfl) ?_
        refine Wc.fix (st' := ⟨[], [], []⟩) [] [] [] [] (by kernel_rfl) ?_
        refine Wc.exit ?_
        obtain rfl := Option.some.inj h133
        exact ⟨rfl, rfl⟩
  · rintro st ⟨rfl, rfl⟩
    refine Wc.seq ?_
    refine Wc.region [] [] [4] [] [] ⟨[(4, (.v (.int .i64 (-1)), []))], [], []⟩ _ (by kernel_rfl) .nil ?_
    refine Wc.ret ?_
    obtain rfl := Option.some.inj h
    exact ⟨.inl rfl, by kernel_rfl, by kernel_rfl⟩

/-- slices.Contains[[]string,string] -/
def pslices_Contains___string_string_ (k : Nat) (i96_ : List ByteArray) (f97_ : ByteArray) : Option Bool :=
  (pslices_Index___string_string_ k i96_ f97_).bind fun b98_ =>
  some (decide (b98_ ≥ 0))
theorem cslices_Contains___string_string_ {k : Nat} {i96_ : List ByteArray} {f97_ : ByteArray} {r : Bool} (h : pslices_Contains___string_string_ k i96_ f97_ = some r) : FnO Try.prog 73 [.v (.sl (List.map cS i96_)) [], .v (.str f97_) []] (.v (.bool r) []) [] := by
  refine FnO.of Try.func73 (rfl : Try.f73.body = some _) (Nat.le_of_ble_eq_true (by kernel_rfl)) (Nat.le_of_ble_eq_true (by kernel_rfl)) ?_
  intro w0 X0 Fin pv0 pb
  unfold pslices_Contains___string_string_ at h
  refine Wc.seq ?_
  refine Wc.region [] [] [0, 1] [] [] ⟨[(0, (.v (.sl (List.map cS i96_)), [])), (1, (.v (.str f97_), []))], [], []⟩ _ (by kernel_rfl) .nil ?_
  refine Wc.seq ?_
  obtain ⟨b98_, h137, h⟩ := obind h
  refine Wc.region [{}, {}, { r := some (.v (.int .i64 b98_) []) }] [] [4] [] [] ⟨[(4, (.v (.bool (decide (b98_ ≥ 0))), []))], [], []⟩ _ (by kernel_rfl) (.cons (cslices_Index___string_string_ h137) .nil) ?_
  refine Wc.ret ?_
  obtain rfl := Option.some.inj h
  exact ⟨.inl rfl, by kernel_rfl, by kernel_rfl⟩

/-- impl.Control -/
def pimpl_Control (k : Nat) (f99_ : ByteArray) : Option Bool :=
  (pslices_Contains___string_string_ k [(bs [116, 114, 117, 101, 47, 48]), (bs [102, 97, 105, 108, 47, 48]), (bs [33, 47, 48]), (bs [44, 47, 50]), (bs [59, 47, 50]), (bs [45, 62, 47, 50]), (bs [92, 43, 47, 49]), (bs [99, 97, 108, 108, 47, 49]), (bs [99, 97, 108, 108, 47, 50]), (bs [99, 97, 108, 108, 47, 51]), (bs [99, 97, 116, 99, 104, 47, 51]), (bs [116, 104, 114, 111, 119, 47, 49]), (bs [61, 47, 50]), (bs [92, 61, 47, 50]), (bs [61, 61, 47, 50]), (bs [105, 115, 47, 50]), (bs [60, 47, 50]), (bs [61, 58, 61, 47, 50]), (bs [118, 97, 114, 47, 49]), (bs [97, 116, 111, 109, 47, 49]), (bs [119, 114, 105, 116, 101, 47, 49]), (bs [97, 115, 115, 101, 114, 116, 122, 47, 49]), (bs [114, 101, 116, 114, 97, 99, 116, 47, 49]), (bs [58, 45, 47, 50]), (bs [58, 45, 47, 49]), (bs [45, 45, 62, 47, 50])] f99_).bind fun g100_ =>
  some g100_
theorem cimpl_Control {k : Nat} {f99_ : ByteArray} {r : Bool} (h : pimpl_Control k f99_ = some r) : FnO Try.prog 97 [.v (.str f99_) []] (.v (.bool r) []) [] := by
  refine FnO.of Try.func97 (rfl : Try.f97.body = some _) (Nat.le_of_ble_eq_true (by kernel_rfl)) (Nat.le_of_ble_eq_true (by kernel_rfl)) ?_
  intro w0 X0 Fin pv0 pb
  unfold pimpl_Control at h
  refine Wc.seq ?_
  refine Wc.region [] [] [0] [] [] ⟨[(0, (.v (.str f99_), []))], [], []⟩ _ (by kernel_rfl) .nil ?_
  refine Wc.seq ?_
  refine Wc.region [{ c := some (List.map cS [(bs [116, 114, 117, 101, 47, 48]), (bs [102, 97, 105, 108, 47, 48]), (bs [33, 47, 48]), (bs [44, 47, 50]), (bs [59, 47, 50]), (bs [45, 62, 47, 50]), (bs [92, 43, 47, 49]), (bs [99, 97, 108, 108, 47, 49]), (bs [99, 97, 108, 108, 47, 50]), (bs [99, 97, 108, 108, 47, 51]), (bs [99, 97, 116, 99, 104, 47, 51]), (bs [116, 104, 114, 111, 119, 47, 49]), (bs [61, 47, 50]), (bs [92, 61, 47, 50]), (bs [61, 61, 47, 50]), (bs [105, 115, 47, 50]), (bs [60, 47, 50]), (bs [61, 58, 61, 47, 50]), (bs [118, 97, 114, 47, 49]), (bs [97, 116, 111, 109, 47, 49]), (bs [119, 114, 105, 116, 101, 47, 49]), (bs [97, 115, 115, 101, 114, 116, 122, 47, 49]), (bs [114, 101, 116, 114, 97, 99, 116, 47, 49]), (bs [58, 45, 47, 50]), (bs [58, 45, 47, 49]), (bs [45, 45, 62, 47, 50])]) }, { tk := [4] }] [] [0, 3] [] [] ⟨[(0, (.v (.str f99_), [])), (3, (.v (.sl (List.map cS [(bs [116, 114, 117, 101, 47, 48]), (bs [102, 97, 105, 108, 47, 48]), (bs [33, 47, 48]), (bs [44, 47, 50]), (bs [59, 47, 50]), (bs [45, 62, 47, 50]), (bs [92, 43, 47, 49]), (bs [99, 97, 108, 108, 47, 49]), (bs [99, 97, 108, 108, 47, 50]), (bs [99, 97, 108, 108, 47, 51]), (bs [99, 97, 116, 99, 104, 47, 51]), (bs [116, 104, 114, 111, 119, 47, 49]), (bs [61, 47, 50]), (bs [92, 61, 47, 50]), (bs [61, 61, 47, 50]), (bs [105, 115, 47, 50]), (bs [60, 47, 50]), (bs [61, 58, 61, 47, 50]), (bs [118, 97, 114, 47, 49]), (bs [97, 116, 111, 109, 47, 49]), (bs [119, 114, 105, 116, 101, 47, 49]), (bs [97, 115, 115, 101, 114, 116, 122, 47, 49]), (bs [114, 101, 116, 114, 97, 99, 116, 47, 49]), (bs [58, 45, 47, 50]), (bs [58, 45, 47, 49]), (bs [45, 45, 62, 47, 50])])), [(0, .app 9)]))], [], []⟩ _ (by kernel_rfl) (.cons (cl_cons (c := cS) (x := (bs [116, 114, 117, 101, 47, 48])) rfl (cl_cons (c := cS) (x := (bs [102, 97, 105, 108, 47, 48])) rfl (cl_cons (c := cS) (x := (bs [33, 47, 48])) rfl (cl_cons (c := cS) (x := (bs [44, 47, 50])) rfl (cl_cons (c := cS) (x := (bs [59, 47, 50])) rfl (cl_cons (c := cS) (x := (bs [45, 62, 47, 50])) rfl (cl_cons (c := cS) (x := (bs [92, 43, 47, 49])) rfl (cl_cons (c := cS) (x := (bs [99, 97, 108, 108, 47, 49])) rfl (cl_cons (c := cS) (x := (bs [99, 97, 108, 108, 47, 50])) rfl (cl_cons (c := cS) (x := (bs [99, 97, 108, 108, 47, 51])) rfl (cl_cons (c := cS) (x := (bs [99, 97, 116, 99, 104, 47, 51])) rfl (cl_cons (c := cS) (x := (bs [116, 104, 114, 111, 119, 47, 49])) rfl (cl_cons (c := cS) (x := (bs [61, 47, 50])) rfl (cl_cons (c := cS) (x := (bs [92, 61, 47, 50])) rfl (cl_cons (c := cS) (x := (bs [61, 61, 47, 50])) rfl (cl_cons (c := cS) (x := (bs [105, 115, 47, 50])) rfl (cl_cons (c := cS) (x := (bs [60, 47, 50])) rfl (cl_cons (c := cS) (x := (bs [61, 58, 61, 47, 50])) rfl (cl_cons (c := cS) (x := (bs [118, 97, 114, 47, 49])) rfl (cl_cons (c := cS) (x := (bs [97, 116, 111, 109, 47, 49])) rfl (cl_cons (c := cS) (x := (bs [119, 114, 105, 116, 101, 47, 49])) rfl (cl_cons (c := cS) (x := (bs [97, 115, 115, 101, 114, 116, 122, 47, 49])) rfl (cl_cons (c := cS) (x := (bs [114, 101, 116, 114, 97, 99, 116, 47, 49])) rfl (cl_cons (c := cS) (x := (bs [58, 45, 47, 50])) rfl (cl_cons (c := cS) (x := (bs [58, 45, 47, 49])) rfl (cl_cons (c := cS) (x := (bs [45, 45, 62, 47, 50])) rfl (cl_nil cS))))))))))))))))))))))))))) .nil) ?_
  refine Wc.seq ?_
  obtain ⟨g100_, h138, h⟩ := obind h
  refine Wc.region [{ tk := [3] }, {}, { r := some (.v (.bool g100_) []) }] [] [2] [] [] ⟨[(2, (.v (.bool g100_), []))], [], []⟩ _ (by kernel_rfl) (.cons (cslices_Contains___string_string_ h138) .nil) ?_
  refine Wc.ret ?_
  obtain rfl := Option.some.inj h
  exact ⟨.inl rfl, by kernel_rfl, by kernel_rfl⟩

/-- impl.ruleName -/
def pimpl_ruleName (k : Nat) (f101_ : ByteArray) : Option Bool :=
  (pimpl_fileName k f101_).bind fun g102_ =>
  if g102_ = true then
    if (!(sEq f101_ (bs [100, 111]))) = true then
      if (!(sEq f101_ (bs [99, 97, 108, 108]))) = true then
        if sumOk f101_ (bs [47, 48]) then
          (pimpl_Control k (f101_ ++ (bs [47, 48]))).bind fun g103_ =>
          if (!g103_) = true then
            if sumOk f101_ (bs [47, 50]) then
              (pimpl_Control k (f101_ ++ (bs [47, 50]))).bind fun g104_ =>
              some (!g104_)
            else none
          else
            some false
        else none
      else
        some false
    else
      some false
  else
    some false
theorem cimpl_ruleName {k : Nat} {f101_ : ByteArray} {r : Bool} (h : pimpl_ruleName k f101_ = some r) : FnO Try.prog 71 [.v (.str f101_) []] (.v (.bool r) []) [] := by
  refine FnO.of Try.func71 (rfl : Try.f71.body = some _) (Nat.le_of_ble_eq_true (by kernel_rfl)) (Nat.le_of_ble_eq_true (by kernel_rfl)) ?_
  intro w0 X0 Fin pv0 pb
  unfold pimpl_ruleName at h
  refine Wc.seq ?_
  refine Wc.region [] [] [0] [] [] ⟨[(0, (.v (.str f101_), []))], [], []⟩ _ (by kernel_rfl) .nil ?_
  refine Wc.seq ?_
  obtain ⟨g102_, h139, h⟩ := obind h
  rcases oif h with ⟨h140, h⟩ | ⟨h140, h⟩
  · rcases oif h with ⟨h141, h⟩ | ⟨h141, h⟩
    · rcases oif h with ⟨h142, h⟩ | ⟨h142, h⟩
      · obtain ⟨h143, h⟩ := oguard h
        obtain ⟨g103_, h144, h⟩ := obind h
        rcases oif h with ⟨h145, h⟩ | ⟨h145, h⟩
        · obtain ⟨h146, h⟩ := oguard h
          obtain ⟨g104_, h147, h⟩ := obind h
          refine Wc.region [{}, { r := some (.v (.bool g102_) []) }, { re := some (.bool true) }, {}, {}, {}, { re := some (.bool true) }, {}, {}, {}, { re := some (.bool true) }, {}, {}, { r := some (.v (.bool g103_) []) }, {}, {}, { re := some (.bool true) }, {}, {}, { r := some (.v (.bool g104_) []) }] [] [2] [] [] ⟨[(2, (.v (.bool (!g104_)), []))], [], []⟩ _ (by kernel_rfl) (.cons (cimpl_fileName h139) (.cons (congrArg AV.bool h140) (.cons (congrArg AV.bool h141) (.cons (congrArg AV.bool h142) (.cons h143 (.cons (cimpl_Control h144) (.cons (congrArg AV.bool h145) (.cons h146 (.cons (cimpl_Control h147) .nil))))))))) ?_
          refine Wc.ret ?_
          obtain rfl := Option.some.inj h
          exact ⟨.inl rfl, by kernel_rfl, by kernel_rfl⟩
        · refine Wc.region [{}, { r := some (.v (.bool g102_) []) }, { re := some (.bool true) }, {}, {}, {}, { re := some (.bool true) }, {}, {}, {}, { re := some (.bool true) }, {}, {}, { r := some (.v (.bool g103_) []) }, {}, {}, { re := some (.bool false) }] [] [2] [] [] ⟨[(2, (.v (.bool false), []))], [], []⟩ _ (by kernel_rfl) (.cons (cimpl_fileName h139) (.cons (congrArg AV.bool h140) (.cons (congrArg AV.bool h141) (.cons (congrArg AV.bool h142) (.cons h143 (.cons (cimpl_Control h144) (.cons (congrArg AV.bool h145) .nil))))))) ?_
          refine Wc.ret ?_
          obtain rfl := Option.some.inj h
          exact ⟨.inl rfl, by kernel_rfl, by kernel_rfl⟩
      · refine Wc.region [{}, { r := some (.v (.bool g102_) []) }, { re := some (.bool true) }, {}, {}, {}, { re := some (.bool true) }, {}, {}, {}, { re := some (.bool false) }] [] [2] [] [] ⟨[(2, (.v (.bool false), []))], [], []⟩ _ (by kernel_rfl) (.cons (cimpl_fileName h139) (.cons (congrArg AV.bool h140) (.cons (congrArg AV.bool h141) (.cons (congrArg AV.bool h142) .nil)))) ?_
        refine Wc.ret ?_
        obtain rfl := Option.some.inj h
        exact ⟨.inl rfl, by kernel_rfl, by kernel_rfl⟩
    · refine Wc.region [{}, { r := some (.v (.bool g102_) []) }, { re := some (.bool true) }, {}, {}, {}, { re := some (.bool false) }] [] [2] [] [] ⟨[(2, (.v (.bool false), []))], [], []⟩ _ (by kernel_rfl) (.cons (cimpl_fileName h139) (.cons (congrArg AV.bool h140) (.cons (congrArg AV.bool h141) .nil))) ?_
      refine Wc.ret ?_
      obtain rfl := Option.some.inj h
      exact ⟨.inl rfl, by kernel_rfl, by kernel_rfl⟩
  · refine Wc.region [{}, { r := some (.v (.bool g102_) []) }, { re := some (.bool false) }] [] [2] [] [] ⟨[(2, (.v (.bool false), []))], [], []⟩ _ (by kernel_rfl) (.cons (cimpl_fileName h139) (.cons (congrArg AV.bool h140) .nil)) ?_
    refine Wc.ret ?_
    obtain rfl := Option.some.inj h
    exact ⟨.inl rfl, by kernel_rfl, by kernel_rfl⟩

def pimpl_firsts_L2 (k : Nat) (d120_ : GRule) : Nat → (List ByteArray) → Int → Option (Out (List ByteArray) (List ByteArray))
  | 0, _, _ => none
  | m + 1, i121_, b122_ =>
    if (decide (b122_ < (d120_.gParts.length : Int))) = true then
      (at' d120_.gParts b122_).bind fun a124_ =>
      if a124_.gWord = true then
        some (.done i121_)
      else
        if i121_.length + [a124_.gName].length ≤ 1073741824 then
          pimpl_firsts_L2 k d120_ m (i121_ ++ [a124_.gName]) (wr.i64 (b122_ + 1))
        else none
    else
      some (.done i121_)
def pimpl_firsts_L1 (k : Nat) (e115_ : List GRule) (f116_ : ByteArray) : Nat → (List ByteArray) → Int → Option (Out (List ByteArray) (List ByteArray))
  | 0, _, _ => none
  | m + 1, i117_, b118_ =>
    if (decide (b118_ < (e115_.length : Int))) = true then
      (at' e115_ b118_).bind fun d120_ =>
      if (!(sEq d120_.gName f116_)) = true then
        pimpl_firsts_L1 k e115_ f116_ m i117_ (wr.i64 (b118_ + 1))
      else
        (pimpl_firsts_L2 k d120_ k i117_ 0).bind fun out2 => match out2 with
        | .ret r => some (.ret r)
        | .done i123_ =>
          pimpl_firsts_L1 k e115_ f116_ m i123_ (wr.i64 (b118_ + 1))
    else
      some (.done i117_)
/-- impl.firsts -/
def pimpl_firsts (k : Nat) (e115_ : List GRule) (f116_ : ByteArray) : Option (List ByteArray) :=
  (pimpl_firsts_L1 k e115_ f116_ k [] 0).bind fun out1 => match out1 with
  | .ret r => some r
  | .done i119_ =>
    some i119_
set_option maxHeartbeats 4000000 in
theorem cimpl_firsts {k : Nat} {e115_ : List GRule} {f116_ : ByteArray} {r : (List ByteArray)} (h : pimpl_firsts k e115_ f116_ = some r) : FnO Try.prog 72 [.v (.sl (List.map GRule.c e115_)) [], .v (.str f116_) []] (.v (.sl (List.map cS r)) [(0, .app 9)]) [] := by
  refine FnO.of Try.func72 (rfl : Try.f72.body = some _) (Nat.le_of_ble_eq_true (by kernel_rfl)) (Nat.le_of_ble_eq_true (by kernel_rfl)) ?_
  intro w0 X0 Fin pv0 pb
  unfold pimpl_firsts at h
  refine Wc.seq ?_
  refine Wc.region [] [] [0, 1] [] [] ⟨[(0, (.v (.sl (List.map GRule.c e115_)), [])), (1, (.v (.str f116_), []))], [], []⟩ _ (by kernel_rfl) .nil ?_
  refine Wc.seq ?_
  refine Wc.region [] [] [0, 1, 5] [] [] ⟨[(0, (.v (.sl (List.map GRule.c e115_)), [])), (1, (.v (.str f116_), [])), (5, (.v (.sl (List.map cS [])), [(0, .app 9)]))], [], []⟩ _ (by kernel_rfl) .nil ?_
  refine Wc.seq ?_
  refine Wc.seq ?_
  refine Wc.region [{}, { v := some (.int .i64 (e115_.length : Int)) }] [] [1, 5, 10, 11, 12] [] [] ⟨[(1, (.v (.str f116_), [])), (5, (.v (.sl (List.map cS [])), [(0, .app 9)])), (10, (.v (.sl (List.map GRule.c e115_)), [])), (11, (.v (.int .i64 (e115_.length : Int)), [])), (12, (.v (.int .i64 0), []))], [], []⟩ _ (by kernel_rfl) (.cons (len_obl GRule.c e115_) .nil) ?_
  obtain ⟨out1, h157, h⟩ := obind h
  refine Wc.lastJ (fun st => ∃ (i119_ : List ByteArray), out1 = .done i119_ ∧ st = ⟨[(5, (.v (.sl (List.map cS i119_)), [(0, .app 9)]))], [], []⟩) ?_ ?_
  · refine Wc.block ?_
    refine Wc.loop (fun m st => ∃ (i117_ : List ByteArray) (b118_ : Int), st = ⟨[(1, (.v (.str f116_), [])), (5, (.v (.sl (List.map cS i117_)), [(0, .app 9)])), (10, (.v (.sl (List.map GRule.c e115_)), [])), (11, (.v (.int .i64 (e115_.length : Int)), [])), (12, (.v (.int .i64 b118_), []))], [], []⟩ ∧ pimpl_firsts_L1 k e115_ f116_ m i117_ b118_ = some out1) ?_ k ⟨_, _, rfl, h157⟩
    rintro m st ⟨i117_, b118_, rfl, h157⟩
    cases m with
    | zero => exact (onone h157).elim
    | succ m =>
      refine Wc.seq ?_
      refine Wc.region [] [] [1, 5, 10, 11, 12, 13] [] [] ⟨[(1, (.v (.str f116_), [])), (5, (.v (.sl (List.map cS i117_)), [(0, .app 9)])), (10, (.v (.sl (List.map GRule.c e115_)), [])), (11, (.v (.int .i64 (e115_.length : Int)), [])), (12, (.v (.int .i64 b118_), [])), (13, (.v (.bool (decide (b118_ < (e115_.length : Int)))), []))], [], []⟩ _ (by kernel_rfl) .nil ?_
      refine Wc.seq ?_
      rcases oif h157 with ⟨h158, h157⟩ | ⟨h158, h157⟩
      · refine Wc.condT h158 (by kernel_rfl) ?_
        refine Wc.fix (st' := ⟨[(1, (.v (.str f116_), [])), (5, (.v (.sl (List.map cS i117_)), [(0, .app 9)])), (10, (.v (.sl (List.map GRule.c e115_)), [])), (11, (.v (.int .i64 (e115_.length : Int)), [])), (12, (.v (.int .i64 b118_), []))], [], []⟩) [] [1, 5, 10, 11, 12] [] [] (by kernel_rfl) ?_
        refine Wc.skip ?_
        refine Wc.seq ?_
        refine Wc.block ?_
        refine Wc.seq ?_
        obtain ⟨d120_, h159, h157⟩ := obind h157
        refine Wc.region [{ v := some (.vptr [.str d120_.gName, .sl (List.map GPart.c d120_.gParts)]) }] [] [1, 5, 7, 10, 11, 12] [7] [] ⟨[(1, (.v (.str f116_), [])), (5, (.v (.sl (List.map cS i117_)), [(0, .app 9)])), (7, (.ptr 7 0, [])), (10, (.v (.sl (List.map GRule.c e115_)), [])), (11, (.v (.int .i64 (e115_.length : Int)), [])), (12, (.v (.int .i64 b118_), []))], [(7, .cells [.str d120_.gName, .sl (List.map GPart.c d120_.gParts)] [])], []⟩ _ (by kernel_rfl) (.cons (at_obl (c := GRule.c) (GRule.c_eq d120_) GRule.c_len h159) (.cons (len_ok 2 [.str d120_.gName, .sl (List.map GPart.c d120_.gParts)]) .nil)) ?_
        refine Wc.seq ?_
        refine Wc.seq ?_
        refine Wc.region [] [] [1, 5, 7, 10, 11, 12, 19] [7] [] ⟨[(1, (.v (.str f116_), [])), (5, (.v (.sl (List.map cS i117_)), [(0, .app 9)])), (7, (.ptr 7 0, [])), (10, (.v (.sl (List.map GRule.c e115_)), [])), (11, (.v (.int .i64 (e115_.length : Int)), [])), (12, (.v (.int .i64 b118_), [])), (19, (.v (.bool (!(sEq d120_.gName f116_))), []))], [(7, .cells [.str d120_.gName, .sl (List.map GPart.c d120_.gParts)] [])], []⟩ _ (by kernel_rfl) .nil ?_
        rcases oif h157 with ⟨h160, h157⟩ | ⟨h160, h157⟩
        · refine Wc.condT h160 (by kernel_rfl) ?_
          refine Wc.fix (st' := ⟨[(1, (.v (.str f116_), [])), (5, (.v (.sl (List.map cS i117_)), [(0, .app 9)])), (10, (.v (.sl (List.map GRule.c e115_)), [])), (11, (.v (.int .i64 (e115_.length : Int)), [])), (12, (.v (.int .i64 b118_), []))], [], []⟩) [] [1, 5, 10, 11, 12] [] [] (by kernel_rfl) ?_
          refine Wc.exit ?_
          refine Wc.region [] [] [1, 5, 10, 11, 12] [] [] ⟨[(1, (.v (.str f116_), [])), (5, (.v (.sl (List.map cS i117_)), [(0, .app 9)])), (10, (.v (.sl (List.map GRule.c e115_)), [])), (11, (.v (.int .i64 (e115_.length : Int)), [])), (12, (.v (.int .i64 (wr.i64 (b118_ + 1))), []))], [], []⟩ _ (by kernel_rfl) .nil ?_
          exact ⟨_, Nat.lt_succ_self _, _, _, rfl, h157⟩
        · refine Wc.condF h160 (by kernel_rfl) ?_
          refine Wc.fix (st' := ⟨[(1, (.v (.str f116_), [])), (5, (.v (.sl (List.map cS i117_)), [(0, .app 9)])), (7, (.ptr 7 0, [])), (10, (.v (.sl (List.map GRule.c e115_)), [])), (11, (.v (.int .i64 (e115_.length : Int)), [])), (12, (.v (.int .i64 b118_), []))], [(7, .cells [.str d120_.gName, .sl (List.map GPart.c d120_.gParts)] [])], []⟩) [] [1, 5, 7, 10, 11, 12] [7] [] (by kernel_rfl) ?_
          refine Wc.skip ?_
          refine Wc.seq ?_
          refine Wc.region [{}, {}, { v := some (.int .i64 (d120_.gParts.length : Int)) }] [] [1, 5, 10, 11, 12, 21, 22, 23] [] [] ⟨[(1, (.v (.str f116_), [])), (5, (.v (.sl (List.map cS i117_)), [(0, .app 9)])), (10, (.v (.sl (List.map GRule.c e115_)), [])), (11, (.v (.int .i64 (e115_.length : Int)), [])), (12, (.v (.int .i64 b118_), [])), (21, (.v (.sl (List.map GPart.c d120_.gParts)), [])), (22, (.v (.int .i64 (d120_.gParts.length : Int)), [])), (23, (.v (.int .i64 0), []))], [], []⟩ _ (by kernel_rfl) (.cons (len_obl GPart.c d120_.gParts) .nil) ?_
          obtain ⟨out2, h161, h157⟩ := obind h157
          refine Wc.lastJ (fun st => ∃ (i123_ : List ByteArray), out2 = .done i123_ ∧ st = ⟨[(1, (.v (.str f116_), [])), (5, (.v (.sl (List.map cS i123_)), [(0, .app 9)])), (10, (.v (.sl (List.map GRule.c e115_)), [])), (11, (.v (.int .i64 (e115_.length : Int)), [])), (12, (.v (.int .i64 b118_), []))], [], []⟩) ?_ ?_
          · refine Wc.block ?_
            refine Wc.loop (fun m st => ∃ (i121_ : List ByteArray) (b122_ : Int), st = ⟨[(1, (.v (.str f116_), [])), (5, (.v (.sl (List.map cS i121_)), [(0, .app 9)])), (10, (.v (.sl (List.map GRule.c e115_)), [])), (11, (.v (.int .i64 (e115_.length : Int)), [])), (12, (.v (.int .i64 b118_), [])), (21, (.v (.sl (List.map GPart.c d120_.gParts)), [])), (22, (.v (.int .i64 (d120_.gParts.length : Int)), [])), (23, (.v (.int .i64 b122_), []))], [], []⟩ ∧ pimpl_firsts_L2 k d120_ m i121_ b122_ = some out2) ?_ k ⟨_, _, rfl, h161⟩
            rintro m st ⟨i121_, b122_, rfl, h161⟩
            cases m with
            | zero => exact (onone h161).elim
            | succ m =>
              refine Wc.seq ?_
              refine Wc.region [] [] [1, 5, 10, 11, 12, 21, 22, 23, 24] [] [] ⟨[(1, (.v (.str f116_), [])), (5, (.v (.sl (List.map cS i121_)), [(0, .app 9)])), (10, (.v (.sl (List.map GRule.c e115_)), [])), (11, (.v (.int .i64 (e115_.length : Int)), [])), (12, (.v (.int .i64 b118_), [])), (21, (.v (.sl (List.map GPart.c d120_.gParts)), [])), (22, (.v (.int .i64 (d120_.gParts.length : Int)), [])), (23, (.v (.int .i64 b122_), [])), (24, (.v (.bool (decide (b122_ < (d120_.gParts.length : Int)))), []))], [], []⟩ _ (by kernel_rfl) .nil ?_
              refine Wc.seq ?_
              rcases oif h161 with ⟨h162, h161⟩ | ⟨h162, h161⟩
              · refine Wc.condT h162 (by kernel_rfl) ?_
                refine Wc.fix (st' := ⟨[(1, (.v (.str f116_), [])), (5, (.v (.sl (List.map cS i121_)), [(0, .app 9)])), (10, (.v (.sl (List.map GRule.c e115_)), [])), (11, (.v (.int .i64 (e115_.length : Int)), [])), (12, (.v (.int .i64 b118_), [])), (21, (.v (.sl (List.map GPart.c d120_.gParts)), [])), (22, (.v (.int .i64 (d120_.gParts.length : Int)), [])), (23, (.v (.int .i64 b122_), []))], [], []⟩) [] [1, 5, 10, 11, 12, 21, 22, 23] [] [] (by kernel_rfl) ?_
                refine Wc.skip ?_
                refine Wc.seq ?_
                refine Wc.block ?_
                refine Wc.seq ?_
                obtain ⟨a124_, h163, h161⟩ := obind h161
                refine Wc.region [{ v := some (.vptr [.bool a124_.gWord, .str a124_.gName]) }] [] [1, 5, 9, 10, 11, 12, 21, 22, 23] [9] [] ⟨[(1, (.v (.str f116_), [])), (5, (.v (.sl (List.map cS i121_)), [(0, .app 9)])), (9, (.ptr 9 0, [])), (10, (.v (.sl (List.map GRule.c e115_)), [])), (11, (.v (.int .i64 (e115_.length : Int)), [])), (12, (.v (.int .i64 b118_), [])), (21, (.v (.sl (List.map GPart.c d120_.gParts)), [])), (22, (.v (.int .i64 (d120_.gParts.length : Int)), [])), (23, (.v (.int .i64 b122_), []))], [(9, .cells [.bool a124_.gWord, .str a124_.gName] [])], []⟩ _ (by kernel_rfl) (.cons (at_obl (c := GPart.c) (GPart.c_eq a124_) GPart.c_len h163) (.cons (len_ok 2 [.bool a124_.gWord, .str a124_.gName]) .nil)) ?_
                refine Wc.seq ?_
                refine Wc.seq ?_
                refine Wc.region [] [] [1, 5, 9, 10, 11, 12, 21, 22, 23, 28] [9] [] ⟨[(1, (.v (.str f116_), [])), (5, (.v (.sl (List.map cS i121_)), [(0, .app 9)])), (9, (.ptr 9 0, [])), (10, (.v (.sl (List.map GRule.c e115_)), [])), (11, (.v (.int .i64 (e115_.length : Int)), [])), (12, (.v (.int .i64 b118_), [])), (21, (.v (.sl (List.map GPart.c d120_.gParts)), [])), (22, (.v (.int .i64 (d120_.gParts.length : Int)), [])), (23, (.v (.int .i64 b122_), [])), (28, (.v (.bool a124_.gWord), []))], [(9, .cells [.bool a124_.gWord, .str a124_.gName] [])], []⟩ _ (by kernel_rfl) .nil ?_
                rcases oif h161 with ⟨h164, h161⟩ | ⟨h164, h161⟩
                · refine Wc.condT h164 (by kernel_rfl) ?_
                  refine Wc.fix (st' := ⟨[(1, (.v (.str f116_), [])), (5, (.v (.sl (List.map cS i121_)), [(0, .app 9)])), (10, (.v (.sl (List.map GRule.c e115_)), [])), (11, (.v (.int .i64 (e115_.length : Int)), [])), (12, (.v (.int .i64 b118_), []))], [], []⟩) [] [1, 5, 10, 11, 12] [] [] (by kernel_rfl) ?_
                  refine Wc.exit ?_
                  obtain rfl := Option.some.inj h161
                  exact ⟨_, rfl, rfl⟩
                · refine Wc.condF h164 (by kernel_rfl) ?_
                  refine Wc.fix (st' := ⟨[(1, (.v (.str f116_), [])), (5, (.v (.sl (List.map cS i121_)), [(0, .app 9)])), (9, (.ptr 9 0, [])), (10, (.v (.sl (List.map GRule.c e115_)), [])), (11, (.v (.int .i64 (e115_.length : Int)), [])), (12, (.v (.int .i64 b118_), [])), (21, (.v (.sl (List.map GPart.c d120_.gParts)), [])), (22, (.v (.int .i64 (d120_.gParts.length : Int)), [])), (23, (.v (.int .i64 b122_), []))], [(9, .cells [.bool a124_.gWord, .str a124_.gName] [])], []⟩) [] [1, 5, 9, 10, 11, 12, 21, 22, 23] [9] [] (by kernel_rfl) ?_
                  refine Wc.skip ?_
                  obtain ⟨h165, h161⟩ := oguard h161
                  refine Wc.region [{ tk := [5] }, {}, {}, { c := some (List.map cS [a124_.gName]) }, { c := some (List.map cS (i121_ ++ [a124_.gName])), tk := [29] }, { tk := [33] }] [] [1, 5, 10, 11, 12, 21, 22, 23] [] [] ⟨[(1, (.v (.str f116_), [])), (5, (.v (.sl (List.map cS (i121_ ++ [a124_.gName]))), [(0, .app 9)])), (10, (.v (.sl (List.map GRule.c e115_)), [])), (11, (.v (.int .i64 (e115_.length : Int)), [])), (12, (.v (.int .i64 b118_), [])), (21, (.v (.sl (List.map GPart.c d120_.gParts)), [])), (22, (.v (.int .i64 (d120_.gParts.length : Int)), [])), (23, (.v (.int .i64 b122_), []))], [], []⟩ _ (by kernel_rfl) (.cons (cl_cons (c := cS) (x := a124_.gName) rfl (cl_nil cS)) (.cons (app_re2 cS i121_ [a124_.gName]) (.cons (app_leaf (c := cS) (ys := [a124_.gName]) cS_leaf) (.cons (app_obl2 (c := cS) (xs := i121_) (ys := [a124_.gName]) cS_len h165) .nil)))) ?_
                  refine Wc.region [] [] [1, 5, 10, 11, 12, 21, 22, 23] [] [] ⟨[(1, (.v (.str f116_), [])), (5, (.v (.sl (List.map cS (i121_ ++ [a124_.gName]))), [(0, .app 9)])), (10, (.v (.sl (List.map GRule.c e115_)), [])), (11, (.v (.int .i64 (e115_.length : Int)), [])), (12, (.v (.int .i64 b118_), [])), (21, (.v (.sl (List.map GPart.c d120_.gParts)), [])), (22, (.v (.int .i64 (d120_.gParts.length : Int)), [])), (23, (.v (.int .i64 (wr.i64 (b122_ + 1))), []))], [], []⟩ _ (by kernel_rfl) .nil ?_
                  exact ⟨_, Nat.lt_succ_self _, _, _, rfl, h161⟩
              · refine Wc.condF h162 (by kernel_rfl) ?_
                refine Wc.fix (st' := ⟨[(1, (.v (.str f116_), [])), (5, (.v (.sl (List.map cS i121_)), [(0, .app 9)])), (10, (.v (.sl (List.map GRule.c e115_)), [])), (11, (.v (.int .i64 (e115_.length : Int)), [])), (12, (.v (.int .i64 b118_), []))], [], []⟩) [] [1, 5, 10, 11, 12] [] [] (by kernel_rfl) ?_
                refine Wc.exit ?_
                obtain rfl := Option.some.inj h161
                exact ⟨_, rfl, rfl⟩
          · rintro st ⟨i123_, rfl, rfl⟩
            refine Wc.region [] [] [1, 5, 10, 11, 12] [] [] ⟨[(1, (.v (.str f116_), [])), (5, (.v (.sl (List.map cS i123_)), [(0, .app 9)])), (10, (.v (.sl (List.map GRule.c e115_)), [])), (11, (.v (.int .i64 (e115_.length : Int)), [])), (12, (.v (.int .i64 (wr.i64 (b118_ + 1))), []))], [], []⟩ _ (by kernel_rfl) .nil ?_
            exact ⟨_, Nat.lt_succ_self _, _, _, rfl, h157⟩
      · refine Wc.condF h158 (by kernel_rfl) ?_
        refine Wc.fix (st' := ⟨[(5, (.v (.sl (List.map cS i117_)), [(0, .app 9)]))], [], []⟩) [] [5] [] [] (by kernel_rfl) ?_
        refine Wc.exit ?_
        obtain rfl := Option.some.inj h157
        exact ⟨_, rfl, rfl⟩
  · rintro st ⟨i119_, rfl, rfl⟩
    refine Wc.seq ?_
    refine Wc.region [{ tk := [5] }, { tk := [36] }] [] [4] [] [] ⟨[(4, (.v (.sl (List.map cS i119_)), [(0, .app 9)]))], [], []⟩ _ (by kernel_rfl) .nil ?_
    refine Wc.ret ?_
    obtain rfl := Option.some.inj h
    exact ⟨.inl rfl, by kernel_rfl, by kernel_rfl⟩

def pimpl_RulesOk_L2 (k : Nat) (d127_ : GRule) : Nat → Int → Option (Out Bool Unit)
  | 0, _ => none
  | m + 1, b129_ =>
    if (decide (b129_ < (d127_.gParts.length : Int))) = true then
      (at' d127_.gParts b129_).bind fun a130_ =>
      (pimpl_ruleName k a130_.gName).bind fun g131_ =>
      if (!g131_) = true then
        some (.ret false)
      else
        pimpl_RulesOk_L2 k d127_ m (wr.i64 (b129_ + 1))
    else
      some (.done ())
def pimpl_RulesOk_L1 (k : Nat) (e125_ : List GRule) : Nat → Int → Option (Out Bool Unit)
  | 0, _ => none
  | m + 1, b126_ =>
    if (decide (b126_ < (e125_.length : Int))) = true then
      (at' e125_ b126_).bind fun d127_ =>
      (pimpl_ruleName k d127_.gName).bind fun g128_ =>
      if (!g128_) = true then
        some (.ret false)
      else
        if (decide ((d127_.gParts.length : Int) > 4)) = true then
          some (.ret false)
        else
          (pimpl_RulesOk_L2 k d127_ k 0).bind fun out2 => match out2 with
          | .ret r => some (.ret r)
          | .done () =>
            pimpl_RulesOk_L1 k e125_ m (wr.i64 (b126_ + 1))
    else
      some (.done ())
def pimpl_RulesOk_L5 (k : Nat) (j139_ : (List ByteArray)) : Nat → (List ByteArray) → Int → Option (Out Bool (List ByteArray))
  | 0, _, _ => none
  | m + 1, i140_, b141_ =>
    if (decide (b141_ < (j139_.length : Int))) = true then
      (at' j139_ b141_).bind fun f143_ =>
      (pslices_Contains___string_string_ k i140_ f143_).bind fun g144_ =>
      if (!g144_) = true then
        if i140_.length + [f143_].length ≤ 1073741824 then
          pimpl_RulesOk_L5 k j139_ m (i140_ ++ [f143_]) (wr.i64 (b141_ + 1))
        else none
      else
        pimpl_RulesOk_L5 k j139_ m i140_ (wr.i64 (b141_ + 1))
    else
      some (.done i140_)
def pimpl_RulesOk_L4 (k : Nat) (e125_ : List GRule) : Nat → (List ByteArray) → Int → Option (Out Bool (List ByteArray))
  | 0, _, _ => none
  | m + 1, i135_, b136_ =>
    if (decide (b136_ < (i135_.length : Int))) = true then
      (at' i135_ b136_).bind fun f138_ =>
      (pimpl_firsts k e125_ f138_).bind fun j139_ =>
      (pimpl_RulesOk_L5 k j139_ k i135_ 0).bind fun out5 => match out5 with
      | .ret r => some (.ret r)
      | .done i142_ =>
        pimpl_RulesOk_L4 k e125_ m i142_ (wr.i64 (b136_ + 1))
    else
      some (.done i135_)
def pimpl_RulesOk_L3 (k : Nat) (e125_ : List GRule) : Nat → Int → Option (Out Bool Unit)
  | 0, _ => none
  | m + 1, b132_ =>
    if (decide (b132_ < (e125_.length : Int))) = true then
      (at' e125_ b132_).bind fun d133_ =>
      (pimpl_firsts k e125_ d133_.gName).bind fun j134_ =>
      (pimpl_RulesOk_L4 k e125_ k j134_ 0).bind fun out4 => match out4 with
      | .ret r => some (.ret r)
      | .done i137_ =>
        (pslices_Contains___string_string_ k i137_ d133_.gName).bind fun g145_ =>
        if g145_ = true then
          some (.ret false)
        else
          pimpl_RulesOk_L3 k e125_ m (wr.i64 (b132_ + 1))
    else
      some (.done ())
/-- impl.RulesOk -/
def pimpl_RulesOk (k : Nat) (e125_ : List GRule) : Option Bool :=
  if (decide ((e125_.length : Int) > 12)) = true then
    some false
  else
    (pimpl_RulesOk_L1 k e125_ k 0).bind fun out1 => match out1 with
    | .ret r => some r
    | .done () =>
      (pimpl_RulesOk_L3 k e125_ k 0).bind fun out3 => match out3 with
      | .ret r => some r
      | .done () =>
        some true
set_option maxHeartbeats 4000000 in
theorem cimpl_RulesOk {k : Nat} {e125_ : List GRule} {r : Bool} (h : pimpl_RulesOk k e125_ = some r) : FnO Try.prog 31 [.v (.sl (List.map GRule.c e125_)) []] (.v (.bool r) []) [] := by
  refine FnO.of Try.func31 (rfl : Try.f31.body = some _) (Nat.le_of_ble_eq_true (by kernel_rfl)) (Nat.le_of_ble_eq_true (by kernel_rfl)) ?_
  intro w0 X0 Fin pv0 pb
  unfold pimpl_RulesOk at h
  refine Wc.seq ?_
  refine Wc.region [] [] [0] [] [] ⟨[(0, (.v (.sl (List.map GRule.c e125_)), []))], [], []⟩ _ (by kernel_rfl) .nil ?_
  refine Wc.seq ?_
  refine Wc.seq ?_
  refine Wc.region [{}, { v := some (.int .i64 (e125_.length : Int)) }] [] [0, 15] [] [] ⟨[(0, (.v (.sl (List.map GRule.c e125_)), [])), (15, (.v (.bool (decide ((e125_.length : Int) > 12))), []))], [], []⟩ _ (by kernel_rfl) (.cons (len_obl GRule.c e125_) .nil) ?_
  rcases oif h with ⟨h166, h⟩ | ⟨h166, h⟩
  · refine Wc.condT h166 (by kernel_rfl) ?_
    refine Wc.seq ?_
    refine Wc.region [] [] [2] [] [] ⟨[(2, (.v (.bool false), []))], [], []⟩ _ (by kernel_rfl) .nil ?_
    refine Wc.ret ?_
    obtain rfl := Option.some.inj h
    exact ⟨.inl rfl, by kernel_rfl, by kernel_rfl⟩
  · refine Wc.condF h166 (by kernel_rfl) ?_
    refine Wc.fix (st' := ⟨[(0, (.v (.sl (List.map GRule.c e125_)), []))], [], []⟩) [] [0] [] [] (by kernel_rfl) ?_
    refine Wc.skip ?_
    refine Wc.seq ?_
    refine Wc.seq ?_
    refine Wc.region [{}, { v := some (.int .i64 (e125_.length : Int)) }] [] [0, 16, 17, 18] [] [] ⟨[(0, (.v (.sl (List.map GRule.c e125_)), [])), (16, (.v (.sl (List.map GRule.c e125_)), [])), (17, (.v (.int .i64 (e125_.length : Int)), [])), (18, (.v (.int .i64 0), []))], [], []⟩ _ (by kernel_rfl) (.cons (len_obl GRule.c e125_) .nil) ?_
    obtain ⟨out1, h167, h⟩ := obind h
    refine Wc.lastJ (fun st => out1 = .done () ∧ st = ⟨[(0, (.v (.sl (List.map GRule.c e125_)), []))], [], []⟩) ?_ ?_
    · refine Wc.block ?_
      refine Wc.loop (fun m st => ∃ (b126_ : Int), st = ⟨[(0, (.v (.sl (List.map GRule.c e125_)), [])), (16, (.v (.sl (List.map GRule.c e125_)), [])), (17, (.v (.int .i64 (e125_.length : Int)), [])), (18, (.v (.int .i64 b126_), []))], [], []⟩ ∧ pimpl_RulesOk_L1 k e125_ m b126_ = some out1) ?_ k ⟨_, rfl, h167⟩
      rintro m st ⟨b126_, rfl, h167⟩
      cases m with
      | zero => exact (onone h167).elim
      | succ m =>
        refine Wc.seq ?_
        refine Wc.region [] [] [0, 16, 17, 18, 19] [] [] ⟨[(0, (.v (.sl (List.map GRule.c e125_)), [])), (16, (.v (.sl (List.map GRule.c e125_)), [])), (17, (.v (.int .i64 (e125_.length : Int)), [])), (18, (.v (.int .i64 b126_), [])), (19, (.v (.bool (decide (b126_ < (e125_.length : Int)))), []))], [], []⟩ _ (by kernel_rfl) .nil ?_
        refine Wc.seq ?_
        rcases oif h167 with ⟨h168, h167⟩ | ⟨h168, h167⟩
        · refine Wc.condT h168 (by kernel_rfl) ?_
          refine Wc.fix (st' := ⟨[(0, (.v (.sl (List.map GRule.c e125_)), [])), (16, (.v (.sl (List.map GRule.c e125_)), [])), (17, (.v (.int .i64 (e125_.length : Int)), [])), (18, (.v (.int .i64 b126_), []))], [], []⟩) [] [0, 16, 17, 18] [] [] (by kernel_rfl) ?_
          refine Wc.skip ?_
          refine Wc.seq ?_
          refine Wc.block ?_
          refine Wc.seq ?_
          obtain ⟨d127_, h169, h167⟩ := obind h167
          refine Wc.region [{ v := some (.vptr [.str d127_.gName, .sl (List.map GPart.c d127_.gParts)]) }] [] [0, 4, 16, 17, 18] [4] [] ⟨[(0, (.v (.sl (List.map GRule.c e125_)), [])), (4, (.ptr 4 0, [])), (16, (.v (.sl (List.map GRule.c e125_)), [])), (17, (.v (.int .i64 (e125_.length : Int)), [])), (18, (.v (.int .i64 b126_), []))], [(4, .cells [.str d127_.gName, .sl (List.map GPart.c d127_.gParts)] [])], []⟩ _ (by kernel_rfl) (.cons (at_obl (c := GRule.c) (GRule.c_eq d127_) GRule.c_len h169) (.cons (len_ok 2 [.str d127_.gName, .sl (List.map GPart.c d127_.gParts)]) .nil)) ?_
          refine Wc.seq ?_
          refine Wc.seq ?_
          obtain ⟨g128_, h170, h167⟩ := obind h167
          rcases oif h167 with ⟨h171, h167⟩ | ⟨h171, h167⟩
          · refine Wc.region [{}, {}, { r := some (.v (.bool g128_) []) }, {}, { re := some (.bool true) }] [] [0, 4, 16, 17, 18, 31] [4] [] ⟨[(0, (.v (.sl (List.map GRule.c e125_)), [])), (4, (.ptr 4 0, [])), (16, (.v (.sl (List.map GRule.c e125_)), [])), (17, (.v (.int .i64 (e125_.length : Int)), [])), (18, (.v (.int .i64 b126_), [])), (31, (.v (.bool true), []))], [(4, .cells [.str d127_.gName, .sl (List.map GPart.c d127_.gParts)] [])], []⟩ _ (by kernel_rfl) (.cons (cimpl_ruleName h170) (.cons (congrArg AV.bool h171) .nil)) ?_
            refine Wc.condT rfl (by kernel_rfl) ?_
            refine Wc.seq ?_
            refine Wc.region [] [] [2] [] [] ⟨[(2, (.v (.bool false), []))], [], []⟩ _ (by kernel_rfl) .nil ?_
            refine Wc.ret ?_
            obtain rfl := Option.some.inj h167
            obtain rfl := Option.some.inj h
            exact ⟨.inl rfl, by kernel_rfl, by kernel_rfl⟩
          · refine Wc.region [{}, {}, { r := some (.v (.bool g128_) []) }, {}, { re := some (.bool false) }, {}, {}, { v := some (.int .i64 (d127_.gParts.length : Int)) }] [] [0, 4, 16, 17, 18, 31] [4] [] ⟨[(0, (.v (.sl (List.map GRule.c e125_)), [])), (4, (.ptr 4 0, [])), (16, (.v (.sl (List.map GRule.c e125_)), [])), (17, (.v (.int .i64 (e125_.length : Int)), [])), (18, (.v (.int .i64 b126_), [])), (31, (.v (.bool (decide ((d127_.gParts.length : Int) > 4))), []))], [(4, .cells [.str d127_.gName, .sl (List.map GPart.c d127_.gParts)] [])], []⟩ _ (by kernel_rfl) (.cons (cimpl_ruleName h170) (.cons (congrArg AV.bool h171) (.cons (len_obl GPart.c d127_.gParts) .nil))) ?_
            rcases oif h167 with ⟨h172, h167⟩ | ⟨h172, h167⟩
            · refine Wc.condT h172 (by kernel_rfl) ?_
              refine Wc.seq ?_
              refine Wc.region [] [] [2] [] [] ⟨[(2, (.v (.bool false), []))], [], []⟩ _ (by kernel_rfl) .nil ?_
              refine Wc.ret ?_
              obtain rfl := Option.some.inj h167
              obtain rfl := Option.some.inj h
              exact ⟨.inl rfl, by kernel_rfl, by kernel_rfl⟩
            · refine Wc.condF h172 (by kernel_rfl) ?_
              refine Wc.fix (st' := ⟨[(0, (.v (.sl (List.map GRule.c e125_)), [])), (4, (.ptr 4 0, [])), (16, (.v (.sl (List.map GRule.c e125_)), [])), (17, (.v (.int .i64 (e125_.length : Int)), [])), (18, (.v (.int .i64 b126_), []))], [(4, .cells [.str d127_.gName, .sl (List.map GPart.c d127_.gParts)] [])], []⟩) [] [0, 4, 16, 17, 18] [4] [] (by kernel_rfl) ?_
              refine Wc.skip ?_
              refine Wc.seq ?_
              refine Wc.region [{}, {}, { v := some (.int .i64 (d127_.gParts.length : Int)) }] [] [0, 16, 17, 18, 33, 34, 35] [] [] ⟨[(0, (.v (.sl (List.map GRule.c e125_)), [])), (16, (.v (.sl (List.map GRule.c e125_)), [])), (17, (.v (.int .i64 (e125_.length : Int)), [])), (18, (.v (.int .i64 b126_), [])), (33, (.v (.sl (List.map GPart.c d127_.gParts)), [])), (34, (.v (.int .i64 (d127_.gParts.length : Int)), [])), (35, (.v (.int .i64 0), []))], [], []⟩ _ (by kernel_rfl) (.cons (len_obl GPart.c d127_.gParts) .nil) ?_
              obtain ⟨out2, h173, h167⟩ := obind h167
              refine Wc.lastJ (fun st => out2 = .done () ∧ st = ⟨[(0, (.v (.sl (List.map GRule.c e125_)), [])), (16, (.v (.sl (List.map GRule.c e125_)), [])), (17, (.v (.int .i64 (e125_.length : Int)), [])), (18, (.v (.int .i64 b126_), []))], [], []⟩) ?_ ?_
              · refine Wc.block ?_
                refine Wc.loop (fun m st => ∃ (b129_ : Int), st = ⟨[(0, (.v (.sl (List.map GRule.c e125_)), [])), (16, (.v (.sl (List.map GRule.c e125_)), [])), (17, (.v (.int .i64 (e125_.length : Int)), [])), (18, (.v (.int .i64 b126_), [])), (33, (.v (.sl (List.map GPart.c d127_.gParts)), [])), (34, (.v (.int .i64 (d127_.gParts.length : Int)), [])), (35, (.v (.int .i64 b129_), []))], [], []⟩ ∧ pimpl_RulesOk_L2 k d127_ m b129_ = some out2) ?_ k ⟨_, rfl, h173⟩
                rintro m st ⟨b129_, rfl, h173⟩
                cases m with
                | zero => exact (onone h173).elim
                | succ m =>
                  refine Wc.seq ?_
                  refine Wc.region [] [] [0, 16, 17, 18, 33, 34, 35, 36] [] [] ⟨[(0, (.v (.sl (List.map GRule.c e125_)), [])), (16, (.v (.sl (List.map GRule.c e125_)), [])), (17, (.v (.int .i64 (e125_.length : Int)), [])), (18, (.v (.int .i64 b126_), [])), (33, (.v (.sl (List.map GPart.c d127_.gParts)), [])), (34, (.v (.int .i64 (d127_.gParts.length : Int)), [])), (35, (.v (.int .i64 b129_), [])), (36, (.v (.bool (decide (b129_ < (d127_.gParts.length : Int)))), []))], [], []⟩ _ (by kernel_rfl) .nil ?_
                  refine Wc.seq ?_
                  rcases oif h173 with ⟨h174, h173⟩ | ⟨h174, h173⟩
                  · refine Wc.condT h174 (by kernel_rfl) ?_
                    refine Wc.fix (st' := ⟨[(0, (.v (.sl (List.map GRule.c e125_)), [])), (16, (.v (.sl (List.map GRule.c e125_)), [])), (17, (.v (.int .i64 (e125_.length : Int)), [])), (18, (.v (.int .i64 b126_), [])), (33, (.v (.sl (List.map GPart.c d127_.gParts)), [])), (34, (.v (.int .i64 (d127_.gParts.length : Int)), [])), (35, (.v (.int .i64 b129_), []))], [], []⟩) [] [0, 16, 17, 18, 33, 34, 35] [] [] (by kernel_rfl) ?_
                    refine Wc.skip ?_
                    refine Wc.seq ?_
                    refine Wc.block ?_
                    refine Wc.seq ?_
                    obtain ⟨a130_, h175, h173⟩ := obind h173
                    refine Wc.region [{ v := some (.vptr [.bool a130_.gWord, .str a130_.gName]) }] [] [0, 6, 16, 17, 18, 33, 34, 35] [6] [] ⟨[(0, (.v (.sl (List.map GRule.c e125_)), [])), (6, (.ptr 6 0, [])), (16, (.v (.sl (List.map GRule.c e125_)), [])), (17, (.v (.int .i64 (e125_.length : Int)), [])), (18, (.v (.int .i64 b126_), [])), (33, (.v (.sl (List.map GPart.c d127_.gParts)), [])), (34, (.v (.int .i64 (d127_.gParts.length : Int)), [])), (35, (.v (.int .i64 b129_), []))], [(6, .cells [.bool a130_.gWord, .str a130_.gName] [])], []⟩ _ (by kernel_rfl) (.cons (at_obl (c := GPart.c) (GPart.c_eq a130_) GPart.c_len h175) (.cons (len_ok 2 [.bool a130_.gWord, .str a130_.gName]) .nil)) ?_
                    refine Wc.seq ?_
                    obtain ⟨g131_, h176, h173⟩ := obind h173
                    refine Wc.region [{}, {}, { r := some (.v (.bool g131_) []) }] [] [0, 16, 17, 18, 33, 34, 35, 42] [] [] ⟨[(0, (.v (.sl (List.map GRule.c e125_)), [])), (16, (.v (.sl (List.map GRule.c e125_)), [])), (17, (.v (.int .i64 (e125_.length : Int)), [])), (18, (.v (.int .i64 b126_), [])), (33, (.v (.sl (List.map GPart.c d127_.gParts)), [])), (34, (.v (.int .i64 (d127_.gParts.length : Int)), [])), (35, (.v (.int .i64 b129_), [])), (42, (.v (.bool (!g131_)), []))], [], []⟩ _ (by kernel_rfl) (.cons (cimpl_ruleName h176) .nil) ?_
                    rcases oif h173 with ⟨h177, h173⟩ | ⟨h177, h173⟩
                    · refine Wc.condT h177 (by kernel_rfl) ?_
                      refine Wc.seq ?_
                      refine Wc.region [] [] [2] [] [] ⟨[(2, (.v (.bool false), []))], [], []⟩ _ (by kernel_rfl) .nil ?_
                      refine Wc.ret ?_
                      obtain rfl := Option.some.inj h173
                      obtain rfl := Option.some.inj h167
                      obtain rfl := Option.some.inj h
                      exact ⟨.inl rfl, by kernel_rfl, by kernel_rfl⟩
                    · refine Wc.condF h177 (by kernel_rfl) ?_
                      refine Wc.fix (st' := ⟨[(0, (.v (.sl (List.map GRule.c e125_)), [])), (16, (.v (.sl (List.map GRule.c e125_)), [])), (17, (.v (.int .i64 (e125_.length : Int)), [])), (18, (.v (.int .i64 b126_), [])), (33, (.v (.sl (List.map GPart.c d127_.gParts)), [])), (34, (.v (.int .i64 (d127_.gParts.length : Int)), [])), (35, (.v (.int .i64 b129_), []))], [], []⟩) [] [0, 16, 17, 18, 33, 34, 35] [] [] (by kernel_rfl) ?_
                      refine Wc.skip ?_
                      refine Wc.region [] [] [0, 16, 17, 18, 33, 34, 35] [] [] ⟨[(0, (.v (.sl (List.map GRule.c e125_)), [])), (16, (.v (.sl (List.map GRule.c e125_)), [])), (17, (.v (.int .i64 (e125_.length : Int)), [])), (18, (.v (.int .i64 b126_), [])), (33, (.v (.sl (List.map GPart.c d127_.gParts)), [])), (34, (.v (.int .i64 (d127_.gParts.length : Int)), [])), (35, (.v (.int .i64 (wr.i64 (b129_ + 1))), []))], [], []⟩ _ (by kernel_rfl) .nil ?_
                      exact ⟨_, Nat.lt_succ_self _, _, rfl, h173⟩
                  · refine Wc.condF h174 (by kernel_rfl) ?_
                    refine Wc.fix (st' := ⟨[(0, (.v (.sl (List.map GRule.c e125_)), [])), (16, (.v (.sl (List.map GRule.c e125_)), [])), (17, (.v (.int .i64 (e125_.length : Int)), [])), (18, (.v (.int .i64 b126_), []))], [], []⟩) [] [0, 16, 17, 18] [] [] (by kernel_rfl) ?_
                    refine Wc.exit ?_
                    obtain rfl := Option.some.inj h173
                    exact ⟨rfl, rfl⟩
              · rintro st ⟨rfl, rfl⟩
                refine Wc.region [] [] [0, 16, 17, 18] [] [] ⟨[(0, (.v (.sl (List.map GRule.c e125_)), [])), (16, (.v (.sl (List.map GRule.c e125_)), [])), (17, (.v (.int .i64 (e125_.length : Int)), [])), (18, (.v (.int .i64 (wr.i64 (b126_ + 1))), []))], [], []⟩ _ (by kernel_rfl) .nil ?_
                exact ⟨_, Nat.lt_succ_self _, _, rfl, h167⟩
        · refine Wc.condF h168 (by kernel_rfl) ?_
          refine Wc.fix (st' := ⟨[(0, (.v (.sl (List.map GRule.c e125_)), []))], [], []⟩) [] [0] [] [] (by kernel_rfl) ?_
          refine Wc.exit ?_
          obtain rfl := Option.some.inj h167
          exact ⟨rfl, rfl⟩
    · rintro st ⟨rfl, rfl⟩
      refine Wc.seq ?_
      refine Wc.seq ?_
      refine Wc.region [{}, { v := some (.int .i64 (e125_.length : Int)) }] [] [0, 45, 46, 47] [] [] ⟨[(0, (.v (.sl (List.map GRule.c e125_)), [])), (45, (.v (.sl (List.map GRule.c e125_)), [])), (46, (.v (.int .i64 (e125_.length : Int)), [])), (47, (.v (.int .i64 0), []))], [], []⟩ _ (by kernel_rfl) (.cons (len_obl GRule.c e125_) .nil) ?_
      obtain ⟨out3, h178, h⟩ := obind h
      refine Wc.lastJ (fun st => out3 = .done () ∧ st = ⟨[], [], []⟩) ?_ ?_
      · refine Wc.block ?_
        refine Wc.loop (fun m st => ∃ (b132_ : Int), st = ⟨[(0, (.v (.sl (List.map GRule.c e125_)), [])), (45, (.v (.sl (List.map GRule.c e125_)), [])), (46, (.v (.int .i64 (e125_.length : Int)), [])), (47, (.v (.int .i64 b132_), []))], [], []⟩ ∧ pimpl_RulesOk_L3 k e125_ m b132_ = some out3) ?_ k ⟨_, rfl, h178⟩
        rintro m st ⟨b132_, rfl, h178⟩
        cases m with
        | zero => exact (onone h178).elim
        | succ m =>
          refine Wc.seq ?_
          refine Wc.region [] [] [0, 45, 46, 47, 48] [] [] ⟨[(0, (.v (.sl (List.map GRule.c e125_)), [])), (45, (.v (.sl (List.map GRule.c e125_)), [])), (46, (.v (.int .i64 (e125_.length : Int)), [])), (47, (.v (.int .i64 b132_), [])), (48, (.v (.bool (decide (b132_ < (e125_.length : Int)))), []))], [], []⟩ _ (by kernel_rfl) .nil ?_
          refine Wc.seq ?_
          rcases oif h178 with ⟨h179, h178⟩ | ⟨h179, h178⟩
          · refine Wc.condT h179 (by kernel_rfl) ?_
            refine Wc.fix (st' := ⟨[(0, (.v (.sl (List.map GRule.c e125_)), [])), (45, (.v (.sl (List.map GRule.c e125_)), [])), (46, (.v (.int .i64 (e125_.length : Int)), [])), (47, (.v (.int .i64 b132_), []))], [], []⟩) [] [0, 45, 46, 47] [] [] (by kernel_rfl) ?_
            refine Wc.skip ?_
            refine Wc.seq ?_
            refine Wc.block ?_
            refine Wc.seq ?_
            obtain ⟨d133_, h180, h178⟩ := obind h178
            refine Wc.region [{ v := some (.vptr [.str d133_.gName, .sl (List.map GPart.c d133_.gParts)]) }] [] [0, 8, 45, 46, 47] [8] [] ⟨[(0, (.v (.sl (List.map GRule.c e125_)), [])), (8, (.ptr 8 0, [])), (45, (.v (.sl (List.map GRule.c e125_)), [])), (46, (.v (.int .i64 (e125_.length : Int)), [])), (47, (.v (.int .i64 b132_), []))], [(8, .cells [.str d133_.gName, .sl (List.map GPart.c d133_.gParts)] [])], []⟩ _ (by kernel_rfl) (.cons (at_obl (c := GRule.c) (GRule.c_eq d133_) GRule.c_len h180) (.cons (len_ok 2 [.str d133_.gName, .sl (List.map GPart.c d133_.gParts)]) .nil)) ?_
            refine Wc.seq ?_
            obtain ⟨j134_, h181, h178⟩ := obind h178
            refine Wc.region [{}, {}, {}, { r := some (.v (.sl (List.map cS j134_)) [(0, .app 9)]) }, { tk := [54] }] [] [0, 8, 9, 45, 46, 47] [8] [] ⟨[(0, (.v (.sl (List.map GRule.c e125_)), [])), (8, (.ptr 8 0, [])), (9, (.v (.sl (List.map cS j134_)), [(0, .app 9)])), (45, (.v (.sl (List.map GRule.c e125_)), [])), (46, (.v (.int .i64 (e125_.length : Int)), [])), (47, (.v (.int .i64 b132_), []))], [(8, .cells [.str d133_.gName, .sl (List.map GPart.c d133_.gParts)] [])], []⟩ _ (by kernel_rfl) (.cons (cimpl_firsts h181) .nil) ?_
            refine Wc.seq ?_
            refine Wc.seq ?_
            refine Wc.region [] [] [0, 8, 9, 10, 45, 46, 47] [8] [] ⟨[(0, (.v (.sl (List.map GRule.c e125_)), [])), (8, (.ptr 8 0, [])), (9, (.v (.sl (List.map cS j134_)), [(0, .app 9)])), (10, (.v (.int .i64 0), [])), (45, (.v (.sl (List.map GRule.c e125_)), [])), (46, (.v (.int .i64 (e125_.length : Int)), [])), (47, (.v (.int .i64 b132_), []))], [(8, .cells [.str d133_.gName, .sl (List.map GPart.c d133_.gParts)] [])], []⟩ _ (by kernel_rfl) .nil ?_
            obtain ⟨out4, h182, h178⟩ := obind h178
            refine Wc.lastJ (fun st => ∃ (i137_ : List ByteArray), out4 = .done i137_ ∧ st = ⟨[(0, (.v (.sl (List.map GRule.c e125_)), [])), (8, (.ptr 8 0, [])), (9, (.v (.sl (List.map cS i137_)), [(0, .app 9)])), (45, (.v (.sl (List.map GRule.c e125_)), [])), (46, (.v (.int .i64 (e125_.length : Int)), [])), (47, (.v (.int .i64 b132_), []))], [(8, .cells [.str d133_.gName, .sl (List.map GPart.c d133_.gParts)] [])], []⟩) ?_ ?_
            · refine Wc.block ?_
              refine Wc.loop (fun m st => ∃ (i135_ : List ByteArray) (b136_ : Int), st = ⟨[(0, (.v (.sl (List.map GRule.c e125_)), [])), (8, (.ptr 8 0, [])), (9, (.v (.sl (List.map cS i135_)), [(0, .app 9)])), (10, (.v (.int .i64 b136_), [])), (45, (.v (.sl (List.map GRule.c e125_)), [])), (46, (.v (.int .i64 (e125_.length : Int)), [])), (47, (.v (.int .i64 b132_), []))], [(8, .cells [.str d133_.gName, .sl (List.map GPart.c d133_.gParts)] [])], []⟩ ∧ pimpl_RulesOk_L4 k e125_ m i135_ b136_ = some out4) ?_ k ⟨_, _, rfl, h182⟩
              rintro m st ⟨i135_, b136_, rfl, h182⟩
              cases m with
              | zero => exact (onone h182).elim
              | succ m =>
                refine Wc.seq ?_
                refine Wc.seq ?_
                refine Wc.region [{}, {}, { v := some (.int .i64 (i135_.length : Int)) }] [] [0, 8, 9, 10, 45, 46, 47, 58] [8] [] ⟨[(0, (.v (.sl (List.map GRule.c e125_)), [])), (8, (.ptr 8 0, [])), (9, (.v (.sl (List.map cS i135_)), [(0, .app 9)])), (10, (.v (.int .i64 b136_), [])), (45, (.v (.sl (List.map GRule.c e125_)), [])), (46, (.v (.int .i64 (e125_.length : Int)), [])), (47, (.v (.int .i64 b132_), [])), (58, (.v (.bool (decide (b136_ < (i135_.length : Int)))), []))], [(8, .cells [.str d133_.gName, .sl (List.map GPart.c d133_.gParts)] [])], []⟩ _ (by kernel_rfl) (.cons (len_obl cS i135_) .nil) ?_
                rcases oif h182 with ⟨h183, h182⟩ | ⟨h183, h182⟩
                · refine Wc.condT h183 (by kernel_rfl) ?_
                  refine Wc.fix (st' := ⟨[(0, (.v (.sl (List.map GRule.c e125_)), [])), (8, (.ptr 8 0, [])), (9, (.v (.sl (List.map cS i135_)), [(0, .app 9)])), (10, (.v (.int .i64 b136_), [])), (45, (.v (.sl (List.map GRule.c e125_)), [])), (46, (.v (.int .i64 (e125_.length : Int)), [])), (47, (.v (.int .i64 b132_), []))], [(8, .cells [.str d133_.gName, .sl (List.map GPart.c d133_.gParts)] [])], []⟩) [] [0, 8, 9, 10, 45, 46, 47] [8] [] (by kernel_rfl) ?_
                  refine Wc.skip ?_
                  refine Wc.seq ?_
                  refine Wc.block ?_
                  refine Wc.seq ?_
                  obtain ⟨f138_, h184, h182⟩ := obind h182
                  obtain ⟨j139_, h185, h182⟩ := obind h182
                  refine Wc.region [{}, {}, {}, { v := some (.vptr [.str f138_]) }, {}, { r := some (.v (.sl (List.map cS j139_)) [(0, .app 9)]) }, { v := some (.int .i64 (j139_.length : Int)) }] [] [0, 8, 9, 10, 45, 46, 47, 66, 67, 68] [8] [] ⟨[(0, (.v (.sl (List.map GRule.c e125_)), [])), (8, (.ptr 8 0, [])), (9, (.v (.sl (List.map cS i135_)), [(0, .app 9)])), (10, (.v (.int .i64 b136_), [])), (45, (.v (.sl (List.map GRule.c e125_)), [])), (46, (.v (.int .i64 (e125_.length : Int)), [])), (47, (.v (.int .i64 b132_), [])), (66, (.v (.sl (List.map cS j139_)), [(0, .app 9)])), (67, (.v (.int .i64 (j139_.length : Int)), [])), (68, (.v (.int .i64 0), []))], [(8, .cells [.str d133_.gName, .sl (List.map GPart.c d133_.gParts)] [])], []⟩ _ (by kernel_rfl) (.cons (at_obl (c := cS) rfl cS_len h184) (.cons (len_ok 1 [.str f138_]) (.cons (cimpl_firsts h185) (.cons (len_obl cS j139_) .nil)))) ?_
                  obtain ⟨out5, h186, h182⟩ := obind h182
                  refine Wc.lastJ (fun st => ∃ (i142_ : List ByteArray), out5 = .done i142_ ∧ st = ⟨[(0, (.v (.sl (List.map GRule.c e125_)), [])), (8, (.ptr 8 0, [])), (9, (.v (.sl (List.map cS i142_)), [(0, .app 9)])), (10, (.v (.int .i64 b136_), [])), (45, (.v (.sl (List.map GRule.c e125_)), [])), (46, (.v (.int .i64 (e125_.length : Int)), [])), (47, (.v (.int .i64 b132_), []))], [(8, .cells [.str d133_.gName, .sl (List.map GPart.c d133_.gParts)] [])], []⟩) ?_ ?_
                  · refine Wc.block ?_
                    refine Wc.loop (fun m st => ∃ (i140_ : List ByteArray) (b141_ : Int), st = ⟨[(0, (.v (.sl (List.map GRule.c e125_)), [])), (8, (.ptr 8 0, [])), (9, (.v (.sl (List.map cS i140_)), [(0, .app 9)])), (10, (.v (.int .i64 b136_), [])), (45, (.v (.sl (List.map GRule.c e125_)), [])), (46, (.v (.int .i64 (e125_.length : Int)), [])), (47, (.v (.int .i64 b132_), [])), (66, (.v (.sl (List.map cS j139_)), [(0, .app 9)])), (67, (.v (.int .i64 (j139_.length : Int)), [])), (68, (.v (.int .i64 b141_), []))], [(8, .cells [.str d133_.gName, .sl (List.map GPart.c d133_.gParts)] [])], []⟩ ∧ pimpl_RulesOk_L5 k j139_ m i140_ b141_ = some out5) ?_ k ⟨_, _, rfl, h186⟩
                    rintro m st ⟨i140_, b141_, rfl, h186⟩
                    cases m with
                    | zero => exact (onone h186).elim
                    | succ m =>
                      refine Wc.seq ?_
                      refine Wc.region [] [] [0, 8, 9, 10, 45, 46, 47, 66, 67, 68, 69] [8] [] ⟨[(0, (.v (.sl (List.map GRule.c e125_)), [])), (8, (.ptr 8 0, [])), (9, (.v (.sl (List.map cS i140_)), [(0, .app 9)])), (10, (.v (.int .i64 b136_), [])), (45, (.v (.sl (List.map GRule.c e125_)), [])), (46, (.v (.int .i64 (e125_.length : Int)), [])), (47, (.v (.int .i64 b132_), [])), (66, (.v (.sl (List.map cS j139_)), [(0, .app 9)])), (67, (.v (.int .i64 (j139_.length : Int)), [])), (68, (.v (.int .i64 b141_), [])), (69, (.v (.bool (decide (b141_ < (j139_.length : Int)))), []))], [(8, .cells [.str d133_.gName, .sl (List.map GPart.c d133_.gParts)] [])], []⟩ _ (by kernel_rfl) .nil ?_
                      refine Wc.seq ?_
                      rcases oif h186 with ⟨h187, h186⟩ | ⟨h187, h186⟩
                      · refine Wc.condT h187 (by kernel_rfl) ?_
                        refine Wc.fix (st' := ⟨[(0, (.v (.sl (List.map GRule.c e125_)), [])), (8, (.ptr 8 0, [])), (9, (.v (.sl (List.map cS i140_)), [(0, .app 9)])), (10, (.v (.int .i64 b136_), [])), (45, (.v (.sl (List.map GRule.c e125_)), [])), (46, (.v (.int .i64 (e125_.length : Int)), [])), (47, (.v (.int .i64 b132_), [])), (66, (.v (.sl (List.map cS j139_)), [(0, .app 9)])), (67, (.v (.int .i64 (j139_.length : Int)), [])), (68, (.v (.int .i64 b141_), []))], [(8, .cells [.str d133_.gName, .sl (List.map GPart.c d133_.gParts)] [])], []⟩) [] [0, 8, 9, 10, 45, 46, 47, 66, 67, 68] [8] [] (by kernel_rfl) ?_
                        refine Wc.skip ?_
                        refine Wc.seq ?_
                        refine Wc.block ?_
                        refine Wc.seq ?_
                        obtain ⟨f143_, h188, h186⟩ := obind h186
                        refine Wc.region [{ v := some (.vptr [.str f143_]) }] [] [0, 8, 9, 10, 12, 45, 46, 47, 66, 67, 68] [8] [] ⟨[(0, (.v (.sl (List.map GRule.c e125_)), [])), (8, (.ptr 8 0, [])), (9, (.v (.sl (List.map cS i140_)), [(0, .app 9)])), (10, (.v (.int .i64 b136_), [])), (12, (.v (.str f143_), [])), (45, (.v (.sl (List.map GRule.c e125_)), [])), (46, (.v (.int .i64 (e125_.length : Int)), [])), (47, (.v (.int .i64 b132_), [])), (66, (.v (.sl (List.map cS j139_)), [(0, .app 9)])), (67, (.v (.int .i64 (j139_.length : Int)), [])), (68, (.v (.int .i64 b141_), []))], [(8, .cells [.str d133_.gName, .sl (List.map GPart.c d133_.gParts)] [])], []⟩ _ (by kernel_rfl) (.cons (at_obl (c := cS) rfl cS_len h188) (.cons (len_ok 1 [.str f143_]) .nil)) ?_
                        refine Wc.seq ?_
                        obtain ⟨g144_, h189, h186⟩ := obind h186
                        refine Wc.region [{}, {}, { r := some (.v (.bool g144_) []) }] [] [0, 8, 9, 10, 12, 45, 46, 47, 66, 67, 68, 75] [8] [] ⟨[(0, (.v (.sl (List.map GRule.c e125_)), [])), (8, (.ptr 8 0, [])), (9, (.v (.sl (List.map cS i140_)), [(0, .app 9)])), (10, (.v (.int .i64 b136_), [])), (12, (.v (.str f143_), [])), (45, (.v (.sl (List.map GRule.c e125_)), [])), (46, (.v (.int .i64 (e125_.length : Int)), [])), (47, (.v (.int .i64 b132_), [])), (66, (.v (.sl (List.map cS j139_)), [(0, .app 9)])), (67, (.v (.int .i64 (j139_.length : Int)), [])), (68, (.v (.int .i64 b141_), [])), (75, (.v (.bool (!g144_)), []))], [(8, .cells [.str d133_.gName, .sl (List.map GPart.c d133_.gParts)] [])], []⟩ _ (by kernel_rfl) (.cons (cslices_Contains___string_string_ h189) .nil) ?_
                        rcases oif h186 with ⟨h190, h186⟩ | ⟨h190, h186⟩
                        · refine Wc.condT h190 (by kernel_rfl) ?_
                          obtain ⟨h191, h186⟩ := oguard h186
                          refine Wc.region [{ tk := [9] }, {}, { c := some (List.map cS [f143_]) }, { c := some (List.map cS (i140_ ++ [f143_])), tk := [76] }, { tk := [79] }] [] [0, 8, 9, 10, 45, 46, 47, 66, 67, 68] [8] [] ⟨[(0, (.v (.sl (List.map GRule.c e125_)), [])), (8, (.ptr 8 0, [])), (9, (.v (.sl (List.map cS (i140_ ++ [f143_]))), [(0, .app 9)])), (10, (.v (.int .i64 b136_), [])), (45, (.v (.sl (List.map GRule.c e125_)), [])), (46, (.v (.int .i64 (e125_.length : Int)), [])), (47, (.v (.int .i64 b132_), [])), (66, (.v (.sl (List.map cS j139_)), [(0, .app 9)])), (67, (.v (.int .i64 (j139_.length : Int)), [])), (68, (.v (.int .i64 b141_), []))], [(8, .cells [.str d133_.gName, .sl (List.map GPart.c d133_.gParts)] [])], []⟩ _ (by kernel_rfl) (.cons (cl_cons (c := cS) (x := f143_) rfl (cl_nil cS)) (.cons (app_re2 cS i140_ [f143_]) (.cons (app_leaf (c := cS) (ys := [f143_]) cS_leaf) (.cons (app_obl2 (c := cS) (xs := i140_) (ys := [f143_]) cS_len h191) .nil)))) ?_
                          refine Wc.region [] [] [0, 8, 9, 10, 45, 46, 47, 66, 67, 68] [8] [] ⟨[(0, (.v (.sl (List.map GRule.c e125_)), [])), (8, (.ptr 8 0, [])), (9, (.v (.sl (List.map cS (i140_ ++ [f143_]))), [(0, .app 9)])), (10, (.v (.int .i64 b136_), [])), (45, (.v (.sl (List.map GRule.c e125_)), [])), (46, (.v (.int .i64 (e125_.length : Int)), [])), (47, (.v (.int .i64 b132_), [])), (66, (.v (.sl (List.map cS j139_)), [(0, .app 9)])), (67, (.v (.int .i64 (j139_.length : Int)), [])), (68, (.v (.int .i64 (wr.i64 (b141_ + 1))), []))], [(8, .cells [.str d133_.gName, .sl (List.map GPart.c d133_.gParts)] [])], []⟩ _ (by kernel_rfl) .nil ?_
                          exact ⟨_, Nat.lt_succ_self _, _, _, rfl, h186⟩
                        · refine Wc.condF h190 (by kernel_rfl) ?_
                          refine Wc.fix (st' := ⟨[(0, (.v (.sl (List.map GRule.c e125_)), [])), (8, (.ptr 8 0, [])), (9, (.v (.sl (List.map cS i140_)), [(0, .app 9)])), (10, (.v (.int .i64 b136_), [])), (45, (.v (.sl (List.map GRule.c e125_)), [])), (46, (.v (.int .i64 (e125_.length : Int)), [])), (47, (.v (.int .i64 b132_), [])), (66, (.v (.sl (List.map cS j139_)), [(0, .app 9)])), (67, (.v (.int .i64 (j139_.length : Int)), [])), (68, (.v (.int .i64 b141_), []))], [(8, .cells [.str d133_.gName, .sl (List.map GPart.c d133_.gParts)] [])], []⟩) [] [0, 8, 9, 10, 45, 46, 47, 66, 67, 68] [8] [] (by kernel_rfl) ?_
                          refine Wc.skip ?_
                          refine Wc.region [] [] [0, 8, 9, 10, 45, 46, 47, 66, 67, 68] [8] [] ⟨[(0, (.v (.sl (List.map GRule.c e125_)), [])), (8, (.ptr 8 0, [])), (9, (.v (.sl (List.map cS i140_)), [(0, .app 9)])), (10, (.v (.int .i64 b136_), [])), (45, (.v (.sl (List.map GRule.c e125_)), [])), (46, (.v (.int .i64 (e125_.length : Int)), [])), (47, (.v (.int .i64 b132_), [])), (66, (.v (.sl (List.map cS j139_)), [(0, .app 9)])), (67, (.v (.int .i64 (j139_.length : Int)), [])), (68, (.v (.int .i64 (wr.i64 (b141_ + 1))), []))], [(8, .cells [.str d133_.gName, .sl (List.map GPart.c d133_.gParts)] [])], []⟩ _ (by kernel_rfl) .nil ?_
                          exact ⟨_, Nat.lt_succ_self _, _, _, rfl, h186⟩
                      · refine Wc.condF h187 (by kernel_rfl) ?_
                        refine Wc.fix (st' := ⟨[(0, (.v (.sl (List.map GRule.c e125_)), [])), (8, (.ptr 8 0, [])), (9, (.v (.sl (List.map cS i140_)), [(0, .app 9)])), (10, (.v (.int .i64 b136_), [])), (45, (.v (.sl (List.map GRule.c e125_)), [])), (46, (.v (.int .i64 (e125_.length : Int)), [])), (47, (.v (.int .i64 b132_), []))], [(8, .cells [.str d133_.gName, .sl (List.map GPart.c d133_.gParts)] [])], []⟩) [] [0, 8, 9, 10, 45, 46, 47] [8] [] (by kernel_rfl) ?_
                        refine Wc.exit ?_
                        obtain rfl := Option.some.inj h186
                        exact ⟨_, rfl, rfl⟩
                  · rintro st ⟨i142_, rfl, rfl⟩
                    refine Wc.region [] [] [0, 8, 9, 10, 45, 46, 47] [8] [] ⟨[(0, (.v (.sl (List.map GRule.c e125_)), [])), (8, (.ptr 8 0, [])), (9, (.v (.sl (List.map cS i142_)), [(0, .app 9)])), (10, (.v (.int .i64 (wr.i64 (b136_ + 1))), [])), (45, (.v (.sl (List.map GRule.c e125_)), [])), (46, (.v (.int .i64 (e125_.length : Int)), [])), (47, (.v (.int .i64 b132_), []))], [(8, .cells [.str d133_.gName, .sl (List.map GPart.c d133_.gParts)] [])], []⟩ _ (by kernel_rfl) .nil ?_
                    exact ⟨_, Nat.lt_succ_self _, _, _, rfl, h182⟩
                · refine Wc.condF h183 (by kernel_rfl) ?_
                  refine Wc.fix (st' := ⟨[(0, (.v (.sl (List.map GRule.c e125_)), [])), (8, (.ptr 8 0, [])), (9, (.v (.sl (List.map cS i135_)), [(0, .app 9)])), (45, (.v (.sl (List.map GRule.c e125_)), [])), (46, (.v (.int .i64 (e125_.length : Int)), [])), (47, (.v (.int .i64 b132_), []))], [(8, .cells [.str d133_.gName, .sl (List.map GPart.c d133_.gParts)] [])], []⟩) [] [0, 8, 9, 45, 46, 47] [8] [] (by kernel_rfl) ?_
                  refine Wc.exit ?_
                  obtain rfl := Option.some.inj h182
                  exact ⟨_, rfl, rfl⟩
            · rintro st ⟨i137_, rfl, rfl⟩
              refine Wc.seq ?_
              obtain ⟨g145_, h192, h178⟩ := obind h178
              refine Wc.region [{ tk := [9] }, {}, {}, { r := some (.v (.bool g145_) []) }] [] [0, 45, 46, 47, 84] [] [] ⟨[(0, (.v (.sl (List.map GRule.c e125_)), [])), (45, (.v (.sl (List.map GRule.c e125_)), [])), (46, (.v (.int .i64 (e125_.length : Int)), [])), (47, (.v (.int .i64 b132_), [])), (84, (.v (.bool g145_), []))], [], []⟩ _ (by kernel_rfl) (.cons (cslices_Contains___string_string_ h192) .nil) ?_
              rcases oif h178 with ⟨h193, h178⟩ | ⟨h193, h178⟩
              · refine Wc.condT h193 (by kernel_rfl) ?_
                refine Wc.seq ?_
                refine Wc.region [] [] [2] [] [] ⟨[(2, (.v (.bool false), []))], [], []⟩ _ (by kernel_rfl) .nil ?_
                refine Wc.ret ?_
                obtain rfl := Option.some.inj h178
                obtain rfl := Option.some.inj h
                exact ⟨.inl rfl, by kernel_rfl, by kernel_rfl⟩
              · refine Wc.condF h193 (by kernel_rfl) ?_
                refine Wc.fix (st' := ⟨[(0, (.v (.sl (List.map GRule.c e125_)), [])), (45, (.v (.sl (List.map GRule.c e125_)), [])), (46, (.v (.int .i64 (e125_.length : Int)), [])), (47, (.v (.int .i64 b132_), []))], [], []⟩) [] [0, 45, 46, 47] [] [] (by kernel_rfl) ?_
                refine Wc.skip ?_
                refine Wc.region [] [] [0, 45, 46, 47] [] [] ⟨[(0, (.v (.sl (List.map GRule.c e125_)), [])), (45, (.v (.sl (List.map GRule.c e125_)), [])), (46, (.v (.int .i64 (e125_.length : Int)), [])), (47, (.v (.int .i64 (wr.i64 (b132_ + 1))), []))], [], []⟩ _ (by kernel_rfl) .nil ?_
                exact ⟨_, Nat.lt_succ_self _, _, rfl, h178⟩
          · refine Wc.condF h179 (by kernel_rfl) ?_
            refine Wc.fix (st' := ⟨[], [], []⟩) [] [] [] [] (by kernel_rfl) ?_
            refine Wc.exit ?_
            obtain rfl := Option.some.inj h178
            exact ⟨rfl, rfl⟩
      · rintro st ⟨rfl, rfl⟩
        refine Wc.seq ?_
        refine Wc.region [] [] [2] [] [] ⟨[(2, (.v (.bool true), []))], [], []⟩ _ (by kernel_rfl) .nil ?_
        refine Wc.ret ?_
        obtain rfl := Option.some.inj h
        exact ⟨.inl rfl, by kernel_rfl, by kernel_rfl⟩

/-- laws.eqPart -/
def plaws_eqPart (k : Nat) (a146_ : GPart) (a147_ : GPart) : Option Bool :=
  if (!(a146_.gWord == a147_.gWord)) = true then
    some false
  else
    if (!(sEq a146_.gName a147_.gName)) = true then
      some false
    else
      some true
theorem claws_eqPart {k : Nat} {a146_ : GPart} {a147_ : GPart} {r : Bool} (h : plaws_eqPart k a146_ a147_ = some r) : FnO Try.prog 90 [.v (.agg [.bool a146_.gWord, .str a146_.gName]) [], .v (.agg [.bool a147_.gWord, .str a147_.gName]) []] (.v (.bool r) []) [] := by
  refine FnO.of Try.func90 (rfl : Try.f90.body = some _) (Nat.le_of_ble_eq_true (by kernel_rfl)) (Nat.le_of_ble_eq_true (by kernel_rfl)) ?_
  intro w0 X0 Fin pv0 pb
  unfold plaws_eqPart at h
  refine Wc.seq ?_
  refine Wc.region [] [] [2, 3] [2, 3] [] ⟨[(2, (.ptr 2 0, [])), (3, (.ptr 3 0, []))], [(2, .cells [.bool a146_.gWord, .str a146_.gName] []), (3, .cells [.bool a147_.gWord, .str a147_.gName] [])], []⟩ _ (by kernel_rfl) .nil ?_
  refine Wc.seq ?_
  refine Wc.seq ?_
  refine Wc.region [] [] [2, 3, 9] [2, 3] [] ⟨[(2, (.ptr 2 0, [])), (3, (.ptr 3 0, [])), (9, (.v (.bool (!(a146_.gWord == a147_.gWord))), []))], [(2, .cells [.bool a146_.gWord, .str a146_.gName] []), (3, .cells [.bool a147_.gWord, .str a147_.gName] [])], []⟩ _ (by kernel_rfl) .nil ?_
  rcases oif h with ⟨h194, h⟩ | ⟨h194, h⟩
  · refine Wc.condT h194 (by kernel_rfl) ?_
    refine Wc.seq ?_
    refine Wc.region [] [] [4] [] [] ⟨[(4, (.v (.bool false), []))], [], []⟩ _ (by kernel_rfl) .nil ?_
    refine Wc.ret ?_
    obtain rfl := Option.some.inj h
    exact ⟨.inl rfl, by kernel_rfl, by kernel_rfl⟩
  · refine Wc.condF h194 (by kernel_rfl) ?_
    refine Wc.fix (st' := ⟨[(2, (.ptr 2 0, [])), (3, (.ptr 3 0, []))], [(2, .cells [.bool a146_.gWord, .str a146_.gName] []), (3, .cells [.bool a147_.gWord, .str a147_.gName] [])], []⟩) [] [2, 3] [2, 3] [] (by kernel_rfl) ?_
    refine Wc.skip ?_
    refine Wc.seq ?_
    refine Wc.seq ?_
    refine Wc.region [] [] [14] [] [] ⟨[(14, (.v (.bool (!(sEq a146_.gName a147_.gName))), []))], [], []⟩ _ (by kernel_rfl) .nil ?_
    rcases oif h with ⟨h195, h⟩ | ⟨h195, h⟩
    · refine Wc.condT h195 (by kernel_rfl) ?_
      refine Wc.seq ?_
      refine Wc.region [] [] [4] [] [] ⟨[(4, (.v (.bool false), []))], [], []⟩ _ (by kernel_rfl) .nil ?_
      refine Wc.ret ?_
      obtain rfl := Option.some.inj h
      exact ⟨.inl rfl, by kernel_rfl, by kernel_rfl⟩
    · refine Wc.condF h195 (by kernel_rfl) ?_
      refine Wc.fix (st' := ⟨[], [], []⟩) [] [] [] [] (by kernel_rfl) ?_
      refine Wc.skip ?_
      refine Wc.seq ?_
      refine Wc.region [] [] [4] [] [] ⟨[(4, (.v (.bool true), []))], [], []⟩ _ (by kernel_rfl) .nil ?_
      refine Wc.ret ?_
      obtain rfl := Option.some.inj h
      exact ⟨.inl rfl, by kernel_rfl, by kernel_rfl⟩

def plaws_eqPartS_L1 (k : Nat) (c148_ : List GPart) (c149_ : List GPart) : Nat → Int → Option (Out Bool Unit)
  | 0, _ => none
  | m + 1, b150_ =>
    if (decide (b150_ < (c148_.length : Int))) = true then
      (at' c148_ b150_).bind fun a151_ =>
      (at' c149_ b150_).bind fun a152_ =>
      (plaws_eqPart k a151_ a152_).bind fun g153_ =>
      if (!g153_) = true then
        some (.ret false)
      else
        plaws_eqPartS_L1 k c148_ c149_ m (wr.i64 (b150_ + 1))
    else
      some (.done ())
/-- laws.eqPartS -/
def plaws_eqPartS (k : Nat) (c148_ : List GPart) (c149_ : List GPart) : Option Bool :=
  if ((c148_.length : Int) != (c149_.length : Int)) = true then
    some false
  else
    (plaws_eqPartS_L1 k c148_ c149_ k 0).bind fun out1 => match out1 with
    | .ret r => some r
    | .done () =>
      some true
theorem claws_eqPartS {k : Nat} {c148_ : List GPart} {c149_ : List GPart} {r : Bool} (h : plaws_eqPartS k c148_ c149_ = some r) : FnO Try.prog 61 [.v (.sl (List.map GPart.c c148_)) [], .v (.sl (List.map GPart.c c149_)) []] (.v (.bool r) []) [] := by
  refine FnO.of Try.func61 (rfl : Try.f61.body = some _) (Nat.le_of_ble_eq_true (by kernel_rfl)) (Nat.le_of_ble_eq_true (by kernel_rfl)) ?_
  intro w0 X0 Fin pv0 pb
  unfold plaws_eqPartS at h
  refine Wc.seq ?_
  refine Wc.region [] [] [0, 1] [] [] ⟨[(0, (.v (.sl (List.map GPart.c c148_)), [])), (1, (.v (.sl (List.map GPart.c c149_)), []))], [], []⟩ _ (by kernel_rfl) .nil ?_
  refine Wc.seq ?_
  refine Wc.seq ?_
  refine Wc.region [{}, { v := some (.int .i64 (c148_.length : Int)) }, {}, { v := some (.int .i64 (c149_.length : Int)) }] [] [0, 1, 10] [] [] ⟨[(0, (.v (.sl (List.map GPart.c c148_)), [])), (1, (.v (.sl (List.map GPart.c c149_)), [])), (10, (.v (.bool ((c148_.length : Int) != (c149_.length : Int))), []))], [], []⟩ _ (by kernel_rfl) (.cons (len_obl GPart.c c148_) (.cons (len_obl GPart.c c149_) .nil)) ?_
  rcases oif h with ⟨h196, h⟩ | ⟨h196, h⟩
  · refine Wc.condT h196 (by kernel_rfl) ?_
    refine Wc.seq ?_
    refine Wc.region [] [] [4] [] [] ⟨[(4, (.v (.bool false), []))], [], []⟩ _ (by kernel_rfl) .nil ?_
    refine Wc.ret ?_
    obtain rfl := Option.some.inj h
    exact ⟨.inl rfl, by kernel_rfl, by kernel_rfl⟩
  · refine Wc.condF h196 (by kernel_rfl) ?_
    refine Wc.fix (st' := ⟨[(0, (.v (.sl (List.map GPart.c c148_)), [])), (1, (.v (.sl (List.map GPart.c c149_)), []))], [], []⟩) [] [0, 1] [] [] (by kernel_rfl) ?_
    refine Wc.skip ?_
    refine Wc.seq ?_
    refine Wc.seq ?_
    refine Wc.region [] [] [0, 1, 5] [] [] ⟨[(0, (.v (.sl (List.map GPart.c c148_)), [])), (1, (.v (.sl (List.map GPart.c c149_)), [])), (5, (.v (.int .i64 0), []))], [], []⟩ _ (by kernel_rfl) .nil ?_
    obtain ⟨out1, h197, h⟩ := obind h
    refine Wc.lastJ (fun st => out1 = .done () ∧ st = ⟨[], [], []⟩) ?_ ?_
    · refine Wc.block ?_
      refine Wc.loop (fun m st => ∃ (b150_ : Int), st = ⟨[(0, (.v (.sl (List.map GPart.c c148_)), [])), (1, (.v (.sl (List.map GPart.c c149_)), [])), (5, (.v (.int .i64 b150_), []))], [], []⟩ ∧ plaws_eqPartS_L1 k c148_ c149_ m b150_ = some out1) ?_ k ⟨_, rfl, h197⟩
      rintro m st ⟨b150_, rfl, h197⟩
      cases m with
      | zero => exact (onone h197).elim
      | succ m =>
        refine Wc.seq ?_
        refine Wc.seq ?_
        refine Wc.region [{}, {}, { v := some (.int .i64 (c148_.length : Int)) }] [] [0, 1, 5, 14] [] [] ⟨[(0, (.v (.sl (List.map GPart.c c148_)), [])), (1, (.v (.sl (List.map GPart.c c149_)), [])), (5, (.v (.int .i64 b150_), [])), (14, (.v (.bool (decide (b150_ < (c148_.length : Int)))), []))], [], []⟩ _ (by kernel_rfl) (.cons (len_obl GPart.c c148_) .nil) ?_
        rcases oif h197 with ⟨h198, h197⟩ | ⟨h198, h197⟩
        · refine Wc.condT h198 (by kernel_rfl) ?_
          refine Wc.fix (st' := ⟨[(0, (.v (.sl (List.map GPart.c c148_)), [])), (1, (.v (.sl (List.map GPart.c c149_)), [])), (5, (.v (.int .i64 b150_), []))], [], []⟩) [] [0, 1, 5] [] [] (by kernel_rfl) ?_
          refine Wc.skip ?_
          refine Wc.seq ?_
          refine Wc.block ?_
          refine Wc.seq ?_
          obtain ⟨a151_, h199, h197⟩ := obind h197
          obtain ⟨a152_, h200, h197⟩ := obind h197
          obtain ⟨g153_, h201, h197⟩ := obind h197
          refine Wc.draw hmix [{}, {}, { v := some (.vptr [.bool a151_.gWord, .str a151_.gName]) }, {}, {}, {}, { v := some (.vptr [.bool a152_.gWord, .str a152_.gName]) }, {}, { r := some (.v (.bool g153_) []) }] [] [0, 1, 5, 26] [] [] ⟨[(0, (.v (.sl (List.map GPart.c c148_)), [])), (1, (.v (.sl (List.map GPart.c c149_)), [])), (5, (.v (.int .i64 b150_), [])), (26, (.v (.bool (!g153_)), []))], [], []⟩ _ (by kernel_rfl) (fun X => by kernel_rfl) (.cons (at_obl (c := GPart.c) (GPart.c_eq a151_) GPart.c_len h199) (.cons (len_ok 2 [.bool a151_.gWord, .str a151_.gName]) (.cons (at_obl (c := GPart.c) (GPart.c_eq a152_) GPart.c_len h200) (.cons (len_ok 2 [.bool a152_.gWord, .str a152_.gName]) (.cons (claws_eqPart h201) .nil))))) ?_
          rcases oif h197 with ⟨h202, h197⟩ | ⟨h202, h197⟩
          · refine Wc.condT h202 (by kernel_rfl) ?_
            refine Wc.seq ?_
            refine Wc.region [] [] [4] [] [] ⟨[(4, (.v (.bool false), []))], [], []⟩ _ (by kernel_rfl) .nil ?_
            refine Wc.ret ?_
            obtain rfl := Option.some.inj h197
            obtain rfl := Option.some.inj h
            exact ⟨.inl rfl, by kernel_rfl, by kernel_rfl⟩
          · refine Wc.condF h202 (by kernel_rfl) ?_
            refine Wc.fix (st' := ⟨[(0, (.v (.sl (List.map GPart.c c148_)), [])), (1, (.v (.sl (List.map GPart.c c149_)), [])), (5, (.v (.int .i64 b150_), []))], [], []⟩) [] [0, 1, 5] [] [] (by kernel_rfl) ?_
            refine Wc.skip ?_
            refine Wc.region [] [] [0, 1, 5] [] [] ⟨[(0, (.v (.sl (List.map GPart.c c148_)), [])), (1, (.v (.sl (List.map GPart.c c149_)), [])), (5, (.v (.int .i64 (wr.i64 (b150_ + 1))), []))], [], []⟩ _ (by kernel_rfl) .nil ?_
            exact ⟨_, Nat.lt_succ_self _, _, rfl, h197⟩
        · refine Wc.condF h198 (by kernel_rfl) ?_
          refine Wc.fix (st' := ⟨[], [], []⟩) [] [] [] [] (by kernel_rfl) ?_
          refine Wc.exit ?_
          obtain rfl := Option.some.inj h197
          exact ⟨rfl, rfl⟩
    · rintro st ⟨rfl, rfl⟩
      refine Wc.seq ?_
      refine Wc.region [] [] [4] [] [] ⟨[(4, (.v (.bool true), []))], [], []⟩ _ (by kernel_rfl) .nil ?_
      refine Wc.ret ?_
      obtain rfl := Option.some.inj h
      exact ⟨.inl rfl, by kernel_rfl, by kernel_rfl⟩

/-- laws.eqRule -/
def plaws_eqRule (k : Nat) (d154_ : GRule) (d155_ : GRule) : Option Bool :=
  if (!(sEq d154_.gName d155_.gName)) = true then
    some false
  else
    (plaws_eqPartS k d154_.gParts d155_.gParts).bind fun g156_ =>
    if (!g156_) = true then
      some false
    else
      some true
theorem claws_eqRule {k : Nat} {d154_ : GRule} {d155_ : GRule} {r : Bool} (h : plaws_eqRule k d154_ d155_ = some r) : FnO Try.prog 19 [.v (.agg [.str d154_.gName, .sl (List.map GPart.c d154_.gParts)]) [], .v (.agg [.str d155_.gName, .sl (List.map GPart.c d155_.gParts)]) []] (.v (.bool r) []) [] := by
  refine FnO.of Try.func19 (rfl : Try.f19.body = some _) (Nat.le_of_ble_eq_true (by kernel_rfl)) (Nat.le_of_ble_eq_true (by kernel_rfl)) ?_
  intro w0 X0 Fin pv0 pb
  unfold plaws_eqRule at h
  refine Wc.seq ?_
  refine Wc.region [] [] [2, 3] [2, 3] [] ⟨[(2, (.ptr 2 0, [])), (3, (.ptr 3 0, []))], [(2, .cells [.str d154_.gName, .sl (List.map GPart.c d154_.gParts)] []), (3, .cells [.str d155_.gName, .sl (List.map GPart.c d155_.gParts)] [])], []⟩ _ (by kernel_rfl) .nil ?_
  refine Wc.seq ?_
  refine Wc.seq ?_
  refine Wc.region [] [] [2, 3, 9] [2, 3] [] ⟨[(2, (.ptr 2 0, [])), (3, (.ptr 3 0, [])), (9, (.v (.bool (!(sEq d154_.gName d155_.gName))), []))], [(2, .cells [.str d154_.gName, .sl (List.map GPart.c d154_.gParts)] []), (3, .cells [.str d155_.gName, .sl (List.map GPart.c d155_.gParts)] [])], []⟩ _ (by kernel_rfl) .nil ?_
  rcases oif h with ⟨h203, h⟩ | ⟨h203, h⟩
  · refine Wc.condT h203 (by kernel_rfl) ?_
    refine Wc.seq ?_
    refine Wc.region [] [] [4] [] [] ⟨[(4, (.v (.bool false), []))], [], []⟩ _ (by kernel_rfl) .nil ?_
    refine Wc.ret ?_
    obtain rfl := Option.some.inj h
    exact ⟨.inl rfl, by kernel_rfl, by kernel_rfl⟩
  · refine Wc.condF h203 (by kernel_rfl) ?_
    refine Wc.fix (st' := ⟨[(2, (.ptr 2 0, [])), (3, (.ptr 3 0, []))], [(2, .cells [.str d154_.gName, .sl (List.map GPart.c d154_.gParts)] []), (3, .cells [.str d155_.gName, .sl (List.map GPart.c d155_.gParts)] [])], []⟩) [] [2, 3] [2, 3] [] (by kernel_rfl) ?_
    refine Wc.skip ?_
    refine Wc.seq ?_
    refine Wc.seq ?_
    obtain ⟨g156_, h204, h⟩ := obind h
    refine Wc.region [{}, {}, {}, {}, { r := some (.v (.bool g156_) []) }] [] [15] [] [] ⟨[(15, (.v (.bool (!g156_)), []))], [], []⟩ _ (by kernel_rfl) (.cons (claws_eqPartS h204) .nil) ?_
    rcases oif h with ⟨h205, h⟩ | ⟨h205, h⟩
    · refine Wc.condT h205 (by kernel_rfl) ?_
      refine Wc.seq ?_
      refine Wc.region [] [] [4] [] [] ⟨[(4, (.v (.bool false), []))], [], []⟩ _ (by kernel_rfl) .nil ?_
      refine Wc.ret ?_
      obtain rfl := Option.some.inj h
      exact ⟨.inl rfl, by kernel_rfl, by kernel_rfl⟩
    · refine Wc.condF h205 (by kernel_rfl) ?_
      refine Wc.fix (st' := ⟨[], [], []⟩) [] [] [] [] (by kernel_rfl) ?_
      refine Wc.skip ?_
      refine Wc.seq ?_
      refine Wc.region [] [] [4] [] [] ⟨[(4, (.v (.bool true), []))], [], []⟩ _ (by kernel_rfl) .nil ?_
      refine Wc.ret ?_
      obtain rfl := Option.some.inj h
      exact ⟨.inl rfl, by kernel_rfl, by kernel_rfl⟩

def plaws_eqRuleS_L1 (k : Nat) (e157_ : List GRule) (e158_ : List GRule) : Nat → Int → Option (Out Bool Unit)
  | 0, _ => none
  | m + 1, b159_ =>
    if (decide (b159_ < (e157_.length : Int))) = true then
      (at' e157_ b159_).bind fun d160_ =>
      (at' e158_ b159_).bind fun d161_ =>
      (plaws_eqRule k d160_ d161_).bind fun g162_ =>
      if (!g162_) = true then
        some (.ret false)
      else
        plaws_eqRuleS_L1 k e157_ e158_ m (wr.i64 (b159_ + 1))
    else
      some (.done ())
/-- laws.eqRuleS -/
def plaws_eqRuleS (k : Nat) (e157_ : List GRule) (e158_ : List GRule) : Option Bool :=
  if ((e157_.length : Int) != (e158_.length : Int)) = true then
    some false
  else
    (plaws_eqRuleS_L1 k e157_ e158_ k 0).bind fun out1 => match out1 with
    | .ret r => some r
    | .done () =>
      some true
theorem claws_eqRuleS {k : Nat} {e157_ : List GRule} {e158_ : List GRule} {r : Bool} (h : plaws_eqRuleS k e157_ e158_ = some r) : FnO Try.prog 32 [.v (.sl (List.map GRule.c e157_)) [], .v (.sl (List.map GRule.c e158_)) []] (.v (.bool r) []) [] := by
  refine FnO.of Try.func32 (rfl : Try.f32.body = some _) (Nat.le_of_ble_eq_true (by kernel_rfl)) (Nat.le_of_ble_eq_true (by kernel_rfl)) ?_
  intro w0 X0 Fin pv0 pb
  unfold plaws_eqRuleS at h
  refine Wc.seq ?_
  refine Wc.region [] [] [0, 1] [] [] ⟨[(0, (.v (.sl (List.map GRule.c e157_)), [])), (1, (.v (.sl (List.map GRule.c e158_)), []))], [], []⟩ _ (by kernel_rfl) .nil ?_
  refine Wc.seq ?_
  refine Wc.seq ?_
  refine Wc.region [{}, { v := some (.int .i64 (e157_.length : Int)) }, {}, { v := some (.int .i64 (e158_.length : Int)) }] [] [0, 1, 10] [] [] ⟨[(0, (.v (.sl (List.map GRule.c e157_)), [])), (1, (.v (.sl (List.map GRule.c e158_)), [])), (10, (.v (.bool ((e157_.length : Int) != (e158_.length : Int))), []))], [], []⟩ _ (by kernel_rfl) (.cons (len_obl GRule.c e157_) (.cons (len_obl GRule.c e158_) .nil)) ?_
  rcases oif h with ⟨h206, h⟩ | ⟨h206, h⟩
  · refine Wc.condT h206 (by kernel_rfl) ?_
    refine Wc.seq ?_
    refine Wc.region [] [] [4] [] [] ⟨[(4, (.v (.bool false), []))], [], []⟩ _ (by kernel_rfl) .nil ?_
    refine Wc.ret ?_
    obtain rfl := Option.some.inj h
    exact ⟨.inl rfl, by kernel_rfl, by kernel_rfl⟩
  · refine Wc.condF h206 (by kernel_rfl) ?_
    refine Wc.fix (st' := ⟨[(0, (.v (.sl (List.map GRule.c e157_)), [])), (1, (.v (.sl (List.map GRule.c e158_)), []))], [], []⟩) [] [0, 1] [] [] (by kernel_rfl) ?_
    refine Wc.skip ?_
    refine Wc.seq ?_
    refine Wc.seq ?_
    refine Wc.region [] [] [0, 1, 5] [] [] ⟨[(0, (.v (.sl (List.map GRule.c e157_)), [])), (1, (.v (.sl (List.map GRule.c e158_)), [])), (5, (.v (.int .i64 0), []))], [], []⟩ _ (by kernel_rfl) .nil ?_
    obtain ⟨out1, h207, h⟩ := obind h
    refine Wc.lastJ (fun st => out1 = .done () ∧ st = ⟨[], [], []⟩) ?_ ?_
    · refine Wc.block ?_
      refine Wc.loop (fun m st => ∃ (b159_ : Int), st = ⟨[(0, (.v (.sl (List.map GRule.c e157_)), [])), (1, (.v (.sl (List.map GRule.c e158_)), [])), (5, (.v (.int .i64 b159_), []))], [], []⟩ ∧ plaws_eqRuleS_L1 k e157_ e158_ m b159_ = some out1) ?_ k ⟨_, rfl, h207⟩
      rintro m st ⟨b159_, rfl, h207⟩
      cases m with
      | zero => exact (onone h207).elim
      | succ m =>
        refine Wc.seq ?_
        refine Wc.seq ?_
        refine Wc.region [{}, {}, { v := some (.int .i64 (e157_.length : Int)) }] [] [0, 1, 5, 14] [] [] ⟨[(0, (.v (.sl (List.map GRule.c e157_)), [])), (1, (.v (.sl (List.map GRule.c e158_)), [])), (5, (.v (.int .i64 b159_), [])), (14, (.v (.bool (decide (b159_ < (e157_.length : Int)))), []))], [], []⟩ _ (by kernel_rfl) (.cons (len_obl GRule.c e157_) .nil) ?_
        rcases oif h207 with ⟨h208, h207⟩ | ⟨h208, h207⟩
        · refine Wc.condT h208 (by kernel_rfl) ?_
          refine Wc.fix (st' := ⟨[(0, (.v (.sl (List.map GRule.c e157_)), [])), (1, (.v (.sl (List.map GRule.c e158_)), [])), (5, (.v (.int .i64 b159_), []))], [], []⟩) [] [0, 1, 5] [] [] (by kernel_rfl) ?_
          refine Wc.skip ?_
          refine Wc.seq ?_
          refine Wc.block ?_
          refine Wc.seq ?_
          obtain ⟨d160_, h209, h207⟩ := obind h207
          obtain ⟨d161_, h210, h207⟩ := obind h207
          obtain ⟨g162_, h211, h207⟩ := obind h207
          refine Wc.draw hmix [{}, {}, { v := some (.vptr [.str d160_.gName, .sl (List.map GPart.c d160_.gParts)]) }, {}, {}, {}, { v := some (.vptr [.str d161_.gName, .sl (List.map GPart.c d161_.gParts)]) }, {}, { r := some (.v (.bool g162_) []) }] [] [0, 1, 5, 26] [] [] ⟨[(0, (.v (.sl (List.map GRule.c e157_)), [])), (1, (.v (.sl (List.map GRule.c e158_)), [])), (5, (.v (.int .i64 b159_), [])), (26, (.v (.bool (!g162_)), []))], [], []⟩ _ (by kernel_rfl) (fun X => by kernel_rfl) (.cons (at_obl (c := GRule.c) (GRule.c_eq d160_) GRule.c_len h209) (.cons (len_ok 2 [.str d160_.gName, .sl (List.map GPart.c d160_.gParts)]) (.cons (at_obl (c := GRule.c) (GRule.c_eq d161_) GRule.c_len h210) (.cons (len_ok 2 [.str d161_.gName, .sl (List.map GPart.c d161_.gParts)]) (.cons (claws_eqRule h211) .nil))))) ?_
          rcases oif h207 with ⟨h212, h207⟩ | ⟨h212, h207⟩
          · refine Wc.condT h212 (by kernel_rfl) ?_
            refine Wc.seq ?_
            refine Wc.region [] [] [4] [] [] ⟨[(4, (.v (.bool false), []))], [], []⟩ _ (by kernel_rfl) .nil ?_
            refine Wc.ret ?_
            obtain rfl := Option.some.inj h207
            obtain rfl := Option.some.inj h
            exact ⟨.inl rfl, by kernel_rfl, by kernel_rfl⟩
          · refine Wc.condF h212 (by kernel_rfl) ?_
            refine Wc.fix (st' := ⟨[(0, (.v (.sl (List.map GRule.c e157_)), [])), (1, (.v (.sl (List.map GRule.c e158_)), [])), (5, (.v (.int .i64 b159_), []))], [], []⟩) [] [0, 1, 5] [] [] (by kernel_rfl) ?_
            refine Wc.skip ?_
            refine Wc.region [] [] [0, 1, 5] [] [] ⟨[(0, (.v (.sl (List.map GRule.c e157_)), [])), (1, (.v (.sl (List.map GRule.c e158_)), [])), (5, (.v (.int .i64 (wr.i64 (b159_ + 1))), []))], [], []⟩ _ (by kernel_rfl) .nil ?_
            exact ⟨_, Nat.lt_succ_self _, _, rfl, h207⟩
        · refine Wc.condF h208 (by kernel_rfl) ?_
          refine Wc.fix (st' := ⟨[], [], []⟩) [] [] [] [] (by kernel_rfl) ?_
          refine Wc.exit ?_
          obtain rfl := Option.some.inj h207
          exact ⟨rfl, rfl⟩
    · rintro st ⟨rfl, rfl⟩
      refine Wc.seq ?_
      refine Wc.region [] [] [4] [] [] ⟨[(4, (.v (.bool true), []))], [], []⟩ _ (by kernel_rfl) .nil ?_
      refine Wc.ret ?_
      obtain rfl := Option.some.inj h
      exact ⟨.inl rfl, by kernel_rfl, by kernel_rfl⟩

/-- laws.FnExactRulesOk -/
def plaws_FnExactRulesOk (k : Nat) (e163_ : List GRule) : Option Bool :=
  (plaws_szRuleS k e163_ 1048576).bind fun b164_ =>
  if (decide (b164_ < 0)) = true then
    some true
  else
    (plaws_toRuleS k e163_).bind fun m165_ =>
    (pspec_RulesOk k m165_).bind fun g166_ =>
    (plaws_toRuleS k e163_).bind fun m167_ =>
    (pimpl_RulesOk k m167_).bind fun g168_ =>
    if (!(g168_ == g166_)) = true then
      some false
    else
      (plaws_toRuleS k e163_).bind fun m169_ =>
      (plaws_eqRuleS k m167_ m169_).bind fun g170_ =>
      if (!g170_) = true then
        some false
      else
        some true
theorem claws_FnExactRulesOk {k : Nat} {e163_ : List GRule} {r : Bool} (h : plaws_FnExactRulesOk k e163_ = some r) : FnO Try.prog 6 [.v (.sl (List.map GRule.c e163_)) []] (.v (.bool r) []) [] := by
  refine FnO.of Try.func6 (rfl : Try.f6.body = some _) (Nat.le_of_ble_eq_true (by kernel_rfl)) (Nat.le_of_ble_eq_true (by kernel_rfl)) ?_
  intro w0 X0 Fin pv0 pb
  unfold plaws_FnExactRulesOk at h
  refine Wc.seq ?_
  refine Wc.region [] [] [0] [] [] ⟨[(0, (.v (.sl (List.map GRule.c e163_)), []))], [], []⟩ _ (by kernel_rfl) .nil ?_
  refine Wc.seq ?_
  refine Wc.region [] [] [0, 3] [] [] ⟨[(0, (.v (.sl (List.map GRule.c e163_)), [])), (3, (.v (.int .i64 1048576), []))], [], []⟩ _ (by kernel_rfl) .nil ?_
  refine Wc.seq ?_
  obtain ⟨b164_, h213, h⟩ := obind h
  refine Wc.region [{}, {}, { r := some (.v (.int .i64 b164_) []) }] [] [0, 3] [] [] ⟨[(0, (.v (.sl (List.map GRule.c e163_)), [])), (3, (.v (.int .i64 b164_), []))], [], []⟩ _ (by kernel_rfl) (.cons (claws_szRuleS h213) .nil) ?_
  refine Wc.seq ?_
  refine Wc.seq ?_
  refine Wc.region [] [] [0, 11] [] [] ⟨[(0, (.v (.sl (List.map GRule.c e163_)), [])), (11, (.v (.bool (decide (b164_ < 0))), []))], [], []⟩ _ (by kernel_rfl) .nil ?_
  rcases oif h with ⟨h214, h⟩ | ⟨h214, h⟩
  · refine Wc.condT h214 (by kernel_rfl) ?_
    refine Wc.seq ?_
    refine Wc.region [] [] [2] [] [] ⟨[(2, (.v (.bool true), []))], [], []⟩ _ (by kernel_rfl) .nil ?_
    refine Wc.ret ?_
    obtain rfl := Option.some.inj h
    exact ⟨.inl rfl, by kernel_rfl, by kernel_rfl⟩
  · refine Wc.condF h214 (by kernel_rfl) ?_
    refine Wc.fix (st' := ⟨[(0, (.v (.sl (List.map GRule.c e163_)), []))], [], []⟩) [] [0] [] [] (by kernel_rfl) ?_
    refine Wc.skip ?_
    refine Wc.seq ?_
    obtain ⟨m165_, h215, h⟩ := obind h
    obtain ⟨g166_, h216, h⟩ := obind h
    refine Wc.region [{}, { r := some (.v (.sl (List.map GRule.c m165_)) []) }, { r := some (.v (.bool g166_) []) }] [] [0, 4] [] [] ⟨[(0, (.v (.sl (List.map GRule.c e163_)), [])), (4, (.v (.bool g166_), []))], [], []⟩ _ (by kernel_rfl) (.cons (claws_toRuleS h215) (.cons (cspec_RulesOk h216) .nil)) ?_
    refine Wc.seq ?_
    obtain ⟨m167_, h217, h⟩ := obind h
    refine Wc.region [{}, { r := some (.v (.sl (List.map GRule.c m167_)) []) }] [] [0, 4, 5] [] [] ⟨[(0, (.v (.sl (List.map GRule.c e163_)), [])), (4, (.v (.bool g166_), [])), (5, (.v (.sl (List.map GRule.c m167_)), []))], [], []⟩ _ (by kernel_rfl) (.cons (claws_toRuleS h217) .nil) ?_
    refine Wc.seq ?_
    obtain ⟨g168_, h218, h⟩ := obind h
    refine Wc.region [{}, { r := some (.v (.bool g168_) []) }] [] [0, 4, 5, 6] [] [] ⟨[(0, (.v (.sl (List.map GRule.c e163_)), [])), (4, (.v (.bool g166_), [])), (5, (.v (.sl (List.map GRule.c m167_)), [])), (6, (.v (.bool g168_), []))], [], []⟩ _ (by kernel_rfl) (.cons (cimpl_RulesOk h218) .nil) ?_
    refine Wc.seq ?_
    refine Wc.seq ?_
    refine Wc.region [] [] [0, 5, 21] [] [] ⟨[(0, (.v (.sl (List.map GRule.c e163_)), [])), (5, (.v (.sl (List.map GRule.c m167_)), [])), (21, (.v (.bool (!(g168_ == g166_))), []))], [], []⟩ _ (by kernel_rfl) .nil ?_
    rcases oif h with ⟨h219, h⟩ | ⟨h219, h⟩
    · refine Wc.condT h219 (by kernel_rfl) ?_
      refine Wc.seq ?_
      refine Wc.region [] [] [2] [] [] ⟨[(2, (.v (.bool false), []))], [], []⟩ _ (by kernel_rfl) .nil ?_
      refine Wc.ret ?_
      obtain rfl := Option.some.inj h
      exact ⟨.inl rfl, by kernel_rfl, by kernel_rfl⟩
    · refine Wc.condF h219 (by kernel_rfl) ?_
      refine Wc.fix (st' := ⟨[(0, (.v (.sl (List.map GRule.c e163_)), [])), (5, (.v (.sl (List.map GRule.c m167_)), []))], [], []⟩) [] [0, 5] [] [] (by kernel_rfl) ?_
      refine Wc.skip ?_
      refine Wc.seq ?_
      refine Wc.seq ?_
      obtain ⟨m169_, h220, h⟩ := obind h
      obtain ⟨g170_, h221, h⟩ := obind h
      refine Wc.region [{}, {}, { r := some (.v (.sl (List.map GRule.c m169_)) []) }, { r := some (.v (.bool g170_) []) }] [] [26] [] [] ⟨[(26, (.v (.bool (!g170_)), []))], [], []⟩ _ (by kernel_rfl) (.cons (claws_toRuleS h220) (.cons (claws_eqRuleS h221) .nil)) ?_
      rcases oif h with ⟨h222, h⟩ | ⟨h222, h⟩
      · refine Wc.condT h222 (by kernel_rfl) ?_
        refine Wc.seq ?_
        refine Wc.region [] [] [2] [] [] ⟨[(2, (.v (.bool false), []))], [], []⟩ _ (by kernel_rfl) .nil ?_
        refine Wc.ret ?_
        obtain rfl := Option.some.inj h
        exact ⟨.inl rfl, by kernel_rfl, by kernel_rfl⟩
      · refine Wc.condF h222 (by kernel_rfl) ?_
        refine Wc.fix (st' := ⟨[], [], []⟩) [] [] [] [] (by kernel_rfl) ?_
        refine Wc.skip ?_
        refine Wc.seq ?_
        refine Wc.region [] [] [2] [] [] ⟨[(2, (.v (.bool true), []))], [], []⟩ _ (by kernel_rfl) .nil ?_
        refine Wc.ret ?_
        obtain rfl := Option.some.inj h
        exact ⟨.inl rfl, by kernel_rfl, by kernel_rfl⟩
end Go.Proofs.Ytjgagbajgdmocaa

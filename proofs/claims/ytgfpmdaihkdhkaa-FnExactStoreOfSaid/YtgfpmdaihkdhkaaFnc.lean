/- What the functions do, part 3. -/
import Derived.Test.YtgfpmdaihkdhkaaFnb
set_option linter.unusedVariables false
set_option linter.unusedSimpArgs false
namespace Go.Proofs.Ytgfpmdaihkdhkaa
open Go.RowKit Go.Bv
def pimpl_sized_L2 (k : Nat) (rimpl_sized : GTerm → Int → Option Int) (uk : GTerm) (v3 : Int) : Nat → Int → Int → Option (Out Int Int)
  | 0, _, _ => none
  | m + 1, u1z, u2c =>
    if (decide (u2c < (uk.gKids.length : Int))) = true then
      (at' uk.gKids u2c).bind fun u7s =>
      (rimpl_sized u7s (wr.i64 (v3 + 1))).bind fun u5a =>
      if (decide ((wr.i64 (u1z + u5a)) > 400)) = true then
        some (.ret 401)
      else
        pimpl_sized_L2 k rimpl_sized uk v3 m (wr.i64 (u1z + u5a)) (wr.i64 (u2c + 1))
    else
      some (.done u1z)
def pimpl_sized_J1 (k : Nat) (rimpl_sized : GTerm → Int → Option Int) (uk : GTerm) (v3 : Int) : Option Int :=
  (pimpl_sized_L2 k rimpl_sized uk v3 k 1 0).bind fun out2 => match out2 with
  | .ret r => some r
  | .done u7t =>
    some u7t
mutual
def pimpl_sized : Nat → GTerm → Int → Option Int
  | 0, _, _ => none
  | k + 1, uk, v3 =>
    if (decide (v3 > 40)) = true then
      some 401
    else
      if (uk.gKind == 1) = true then
        if (!(sEq uk.gName (bs []))) = true then
          some 401
        else
          (pimpl_within k uk.gNum 0 99999).bind fun ubc =>
          if (!ubc) = true then
            some 401
          else
            if (decide ((uk.gKids.length : Int) > 0)) = true then
              some 401
            else
              pimpl_sized_J1 k (pimpl_sized k) uk v3
      else
        if (uk.gKind == 2) = true then
          (pimpl_nameOk k uk.gName).bind fun u9x =>
          if (!u9x) = true then
            some 401
          else
            if (uk.gNum != 0) = true then
              some 401
            else
              if (decide ((uk.gKids.length : Int) > 0)) = true then
                some 401
              else
                pimpl_sized_J1 k (pimpl_sized k) uk v3
        else
          if (uk.gKind == 3) = true then
            if (!(sEq uk.gName (bs []))) = true then
              some 401
            else
              (pimpl_within k uk.gNum (-999999999) 999999999).bind fun ubd =>
              if (!ubd) = true then
                some 401
              else
                if (decide ((uk.gKids.length : Int) > 0)) = true then
                  some 401
                else
                  pimpl_sized_J1 k (pimpl_sized k) uk v3
          else
            if (uk.gKind == 4) = true then
              (pimpl_nameOk k uk.gName).bind fun u9y =>
              if (!u9y) = true then
                some 401
              else
                if (uk.gNum != 0) = true then
                  some 401
                else
                  (pimpl_within k (uk.gKids.length : Int) 1 5).bind fun ube =>
                  if (!ube) = true then
                    some 401
                  else
                    pimpl_sized_J1 k (pimpl_sized k) uk v3
            else
              some 401
end
set_option maxHeartbeats 4000000 in
theorem all_pimpl_sized : ∀ k : Nat, (∀ {uk : GTerm} {v3 : Int} {r : Int}, pimpl_sized k uk v3 = some r → FnO Try.prog 125 [.v (.agg (GTerm.q uk)) [], .v (.int .i64 v3) []] (.v (.int .i64 r) []) []) := by
  intro k
  induction k with
  | zero =>
    · intro uk v3 r h
      exact (onone (by rw [pimpl_sized] at h; exact h)).elim
  | succ k ih =>
    have ih_pimpl_sized := @ih
    · intro uk v3 r h
      rw [pimpl_sized] at h
      refine FnO.of Try.func125 (rfl : Try.f125.body = some _) (Nat.le_of_ble_eq_true (by kernel_rfl)) (Nat.le_of_ble_eq_true (by kernel_rfl)) ?_
      intro w0 X0 Fin pv0 pb
      apply Wc.seq
      refine Wc.region [] [] [1, 2] [2] [] ⟨[(1, (.v (.int .i64 v3), [])), (2, (.ptr 2 0, []))], [(2, .cells (GTerm.q uk) [])], []⟩ _ (by kernel_rfl) .nil ?_
      apply Wc.seq
      apply Wc.seq
      refine Wc.region [] [] [1, 2, 9] [2] [] ⟨[(1, (.v (.int .i64 v3), [])), (2, (.ptr 2 0, [])), (9, (.v (.bool (decide (v3 > 40))), []))], [(2, .cells (GTerm.q uk) [])], []⟩ _ (by kernel_rfl) .nil ?_
      rcases oif h with ⟨h411, h⟩ | ⟨h411, h⟩
      · refine Wc.condT h411 (by kernel_rfl) ?_
        apply Wc.seq
        refine Wc.region [] [] [4] [] [] ⟨[(4, (.v (.int .i64 401), []))], [], []⟩ _ (by kernel_rfl) .nil ?_
        refine Wc.ret ?_
        obtain rfl := Option.some.inj h
        exact ⟨.inl rfl, by kernel_rfl, by kernel_rfl⟩
      · refine Wc.condF h411 (by kernel_rfl) ?_
        refine Wc.fix (st' := ⟨[(1, (.v (.int .i64 v3), [])), (2, (.ptr 2 0, []))], [(2, .cells (GTerm.q uk) [])], []⟩) [] [1, 2] [2] [] (by kernel_rfl) ?_
        refine Wc.skip ?_
        refine Wc.seqJ (fun st => st = ⟨[(1, (.v (.int .i64 v3), [])), (2, (.ptr 2 0, []))], [(2, .cells (GTerm.q uk) [])], []⟩ ∧ pimpl_sized_J1 k (pimpl_sized k) uk v3 = some r) ?_ ?_
        · apply Wc.seq
          refine Wc.region [] [] [1, 2, 11] [2] [] ⟨[(1, (.v (.int .i64 v3), [])), (2, (.ptr 2 0, [])), (11, (.v (.int .i64 uk.gKind), []))], [(2, .cells (GTerm.q uk) [])], []⟩ _ (by kernel_rfl) .nil ?_
          refine Wc.block ?_
          apply Wc.seq
          refine Wc.region [] [] [1, 2, 11, 12] [2] [] ⟨[(1, (.v (.int .i64 v3), [])), (2, (.ptr 2 0, [])), (11, (.v (.int .i64 uk.gKind), [])), (12, (.v (.bool (uk.gKind == 1)), []))], [(2, .cells (GTerm.q uk) [])], []⟩ _ (by kernel_rfl) .nil ?_
          rcases oif h with ⟨h417, h⟩ | ⟨h417, h⟩
          · refine Wc.condT h417 (by kernel_rfl) ?_
            apply Wc.seq
            rcases oif h with ⟨h418, h⟩ | ⟨h418, h⟩
            · refine Wc.region [{}, {}, {}, { re := some (.bool true) }] [] [1, 2, 28] [2] [] ⟨[(1, (.v (.int .i64 v3), [])), (2, (.ptr 2 0, [])), (28, (.v (.bool true), []))], [(2, .cells (GTerm.q uk) [])], []⟩ _ (by kernel_rfl) (.cons (congrArg AV.bool h418) .nil) ?_
              refine Wc.condT rfl (by kernel_rfl) ?_
              apply Wc.seq
              refine Wc.region [] [] [4] [] [] ⟨[(4, (.v (.int .i64 401), []))], [], []⟩ _ (by kernel_rfl) .nil ?_
              refine Wc.ret ?_
              obtain rfl := Option.some.inj h
              exact ⟨.inl rfl, by kernel_rfl, by kernel_rfl⟩
            · obtain ⟨ubc, h419, h⟩ := obind h
              rcases oif h with ⟨h420, h⟩ | ⟨h420, h⟩
              · refine Wc.region [{}, {}, {}, { re := some (.bool false) }, {}, {}, { r := some (.v (.bool ubc) []) }, {}, {}, { re := some (.bool true) }] [] [1, 2, 28] [2] [] ⟨[(1, (.v (.int .i64 v3), [])), (2, (.ptr 2 0, [])), (28, (.v (.bool true), []))], [(2, .cells (GTerm.q uk) [])], []⟩ _ (by kernel_rfl) (.cons (congrArg AV.bool h418) (.cons (cimpl_within h419) (.cons (congrArg AV.bool h420) .nil))) ?_
                refine Wc.condT rfl (by kernel_rfl) ?_
                apply Wc.seq
                refine Wc.region [] [] [4] [] [] ⟨[(4, (.v (.int .i64 401), []))], [], []⟩ _ (by kernel_rfl) .nil ?_
                refine Wc.ret ?_
                obtain rfl := Option.some.inj h
                exact ⟨.inl rfl, by kernel_rfl, by kernel_rfl⟩
              · refine Wc.region [{}, {}, {}, { re := some (.bool false) }, {}, {}, { r := some (.v (.bool ubc) []) }, {}, {}, { re := some (.bool false) }, {}, {}, { v := some (.int .i64 (uk.gKids.length : Int)) }] [] [1, 2, 28] [2] [] ⟨[(1, (.v (.int .i64 v3), [])), (2, (.ptr 2 0, [])), (28, (.v (.bool (decide ((uk.gKids.length : Int) > 0))), []))], [(2, .cells (GTerm.q uk) [])], []⟩ _ (by kernel_rfl) (.cons (congrArg AV.bool h418) (.cons (cimpl_within h419) (.cons (congrArg AV.bool h420) (.cons (len_obl GTerm.c uk.gKids) .nil)))) ?_
                rcases oif h with ⟨h421, h⟩ | ⟨h421, h⟩
                · refine Wc.condT h421 (by kernel_rfl) ?_
                  apply Wc.seq
                  refine Wc.region [] [] [4] [] [] ⟨[(4, (.v (.int .i64 401), []))], [], []⟩ _ (by kernel_rfl) .nil ?_
                  refine Wc.ret ?_
                  obtain rfl := Option.some.inj h
                  exact ⟨.inl rfl, by kernel_rfl, by kernel_rfl⟩
                · refine Wc.condF h421 (by kernel_rfl) ?_
                  refine Wc.fix (st' := ⟨[(1, (.v (.int .i64 v3), [])), (2, (.ptr 2 0, []))], [(2, .cells (GTerm.q uk) [])], []⟩) [] [1, 2] [2] [] (by kernel_rfl) ?_
                  refine Wc.skip ?_
                  exact ⟨rfl, h⟩
          · refine Wc.condF h417 (by kernel_rfl) ?_
            apply Wc.seq
            refine Wc.region [] [] [1, 2, 11, 29] [2] [] ⟨[(1, (.v (.int .i64 v3), [])), (2, (.ptr 2 0, [])), (11, (.v (.int .i64 uk.gKind), [])), (29, (.v (.bool (uk.gKind == 2)), []))], [(2, .cells (GTerm.q uk) [])], []⟩ _ (by kernel_rfl) .nil ?_
            rcases oif h with ⟨h422, h⟩ | ⟨h422, h⟩
            · refine Wc.condT h422 (by kernel_rfl) ?_
              apply Wc.seq
              obtain ⟨u9x, h423, h⟩ := obind h
              rcases oif h with ⟨h424, h⟩ | ⟨h424, h⟩
              · refine Wc.region [{}, {}, { r := some (.v (.bool u9x) []) }, {}, { re := some (.bool true) }] [] [1, 2, 45] [2] [] ⟨[(1, (.v (.int .i64 v3), [])), (2, (.ptr 2 0, [])), (45, (.v (.bool true), []))], [(2, .cells (GTerm.q uk) [])], []⟩ _ (by kernel_rfl) (.cons (cimpl_nameOk h423) (.cons (congrArg AV.bool h424) .nil)) ?_
                refine Wc.condT rfl (by kernel_rfl) ?_
                apply Wc.seq
                refine Wc.region [] [] [4] [] [] ⟨[(4, (.v (.int .i64 401), []))], [], []⟩ _ (by kernel_rfl) .nil ?_
                refine Wc.ret ?_
                obtain rfl := Option.some.inj h
                exact ⟨.inl rfl, by kernel_rfl, by kernel_rfl⟩
              · rcases oif h with ⟨h425, h⟩ | ⟨h425, h⟩
                · refine Wc.region [{}, {}, { r := some (.v (.bool u9x) []) }, {}, { re := some (.bool false) }, {}, {}, {}, {}, { re := some (.bool true) }] [] [1, 2, 45] [2] [] ⟨[(1, (.v (.int .i64 v3), [])), (2, (.ptr 2 0, [])), (45, (.v (.bool true), []))], [(2, .cells (GTerm.q uk) [])], []⟩ _ (by kernel_rfl) (.cons (cimpl_nameOk h423) (.cons (congrArg AV.bool h424) (.cons (congrArg AV.bool h425) .nil))) ?_
                  refine Wc.condT rfl (by kernel_rfl) ?_
                  apply Wc.seq
                  refine Wc.region [] [] [4] [] [] ⟨[(4, (.v (.int .i64 401), []))], [], []⟩ _ (by kernel_rfl) .nil ?_
                  refine Wc.ret ?_
                  obtain rfl := Option.some.inj h
                  exact ⟨.inl rfl, by kernel_rfl, by kernel_rfl⟩
                · refine Wc.region [{}, {}, { r := some (.v (.bool u9x) []) }, {}, { re := some (.bool false) }, {}, {}, {}, {}, { re := some (.bool false) }, {}, {}, { v := some (.int .i64 (uk.gKids.length : Int)) }] [] [1, 2, 45] [2] [] ⟨[(1, (.v (.int .i64 v3), [])), (2, (.ptr 2 0, [])), (45, (.v (.bool (decide ((uk.gKids.length : Int) > 0))), []))], [(2, .cells (GTerm.q uk) [])], []⟩ _ (by kernel_rfl) (.cons (cimpl_nameOk h423) (.cons (congrArg AV.bool h424) (.cons (congrArg AV.bool h425) (.cons (len_obl GTerm.c uk.gKids) .nil)))) ?_
                  rcases oif h with ⟨h426, h⟩ | ⟨h426, h⟩
                  · refine Wc.condT h426 (by kernel_rfl) ?_
                    apply Wc.seq
                    refine Wc.region [] [] [4] [] [] ⟨[(4, (.v (.int .i64 401), []))], [], []⟩ _ (by kernel_rfl) .nil ?_
                    refine Wc.ret ?_
                    obtain rfl := Option.some.inj h
                    exact ⟨.inl rfl, by kernel_rfl, by kernel_rfl⟩
                  · refine Wc.condF h426 (by kernel_rfl) ?_
                    refine Wc.fix (st' := ⟨[(1, (.v (.int .i64 v3), [])), (2, (.ptr 2 0, []))], [(2, .cells (GTerm.q uk) [])], []⟩) [] [1, 2] [2] [] (by kernel_rfl) ?_
                    refine Wc.skip ?_
                    exact ⟨rfl, h⟩
            · refine Wc.condF h422 (by kernel_rfl) ?_
              apply Wc.seq
              refine Wc.region [] [] [1, 2, 11, 46] [2] [] ⟨[(1, (.v (.int .i64 v3), [])), (2, (.ptr 2 0, [])), (11, (.v (.int .i64 uk.gKind), [])), (46, (.v (.bool (uk.gKind == 3)), []))], [(2, .cells (GTerm.q uk) [])], []⟩ _ (by kernel_rfl) .nil ?_
              rcases oif h with ⟨h427, h⟩ | ⟨h427, h⟩
              · refine Wc.condT h427 (by kernel_rfl) ?_
                apply Wc.seq
                rcases oif h with ⟨h428, h⟩ | ⟨h428, h⟩
                · refine Wc.region [{}, {}, {}, { re := some (.bool true) }] [] [1, 2, 62] [2] [] ⟨[(1, (.v (.int .i64 v3), [])), (2, (.ptr 2 0, [])), (62, (.v (.bool true), []))], [(2, .cells (GTerm.q uk) [])], []⟩ _ (by kernel_rfl) (.cons (congrArg AV.bool h428) .nil) ?_
                  refine Wc.condT rfl (by kernel_rfl) ?_
                  apply Wc.seq
                  refine Wc.region [] [] [4] [] [] ⟨[(4, (.v (.int .i64 401), []))], [], []⟩ _ (by kernel_rfl) .nil ?_
                  refine Wc.ret ?_
                  obtain rfl := Option.some.inj h
                  exact ⟨.inl rfl, by kernel_rfl, by kernel_rfl⟩
                · obtain ⟨ubd, h429, h⟩ := obind h
                  rcases oif h with ⟨h430, h⟩ | ⟨h430, h⟩
                  · refine Wc.region [{}, {}, {}, { re := some (.bool false) }, {}, {}, { r := some (.v (.bool ubd) []) }, {}, {}, { re := some (.bool true) }] [] [1, 2, 62] [2] [] ⟨[(1, (.v (.int .i64 v3), [])), (2, (.ptr 2 0, [])), (62, (.v (.bool true), []))], [(2, .cells (GTerm.q uk) [])], []⟩ _ (by kernel_rfl) (.cons (congrArg AV.bool h428) (.cons (cimpl_within h429) (.cons (congrArg AV.bool h430) .nil))) ?_
                    refine Wc.condT rfl (by kernel_rfl) ?_
                    apply Wc.seq
                    refine Wc.region [] [] [4] [] [] ⟨[(4, (.v (.int .i64 401), []))], [], []⟩ _ (by kernel_rfl) .nil ?_
                    refine Wc.ret ?_
                    obtain rfl := Option.some.inj h
                    exact ⟨.inl rfl, by kernel_rfl, by kernel_rfl⟩
                  · refine Wc.region [{}, {}, {}, { re := some (.bool false) }, {}, {}, { r := some (.v (.bool ubd) []) }, {}, {}, { re := some (.bool false) }, {}, {}, { v := some (.int .i64 (uk.gKids.length : Int)) }] [] [1, 2, 62] [2] [] ⟨[(1, (.v (.int .i64 v3), [])), (2, (.ptr 2 0, [])), (62, (.v (.bool (decide ((uk.gKids.length : Int) > 0))), []))], [(2, .cells (GTerm.q uk) [])], []⟩ _ (by kernel_rfl) (.cons (congrArg AV.bool h428) (.cons (cimpl_within h429) (.cons (congrArg AV.bool h430) (.cons (len_obl GTerm.c uk.gKids) .nil)))) ?_
                    rcases oif h with ⟨h431, h⟩ | ⟨h431, h⟩
                    · refine Wc.condT h431 (by kernel_rfl) ?_
                      apply Wc.seq
                      refine Wc.region [] [] [4] [] [] ⟨[(4, (.v (.int .i64 401), []))], [], []⟩ _ (by kernel_rfl) .nil ?_
                      refine Wc.ret ?_
                      obtain rfl := Option.some.inj h
                      exact ⟨.inl rfl, by kernel_rfl, by kernel_rfl⟩
                    · refine Wc.condF h431 (by kernel_rfl) ?_
                      refine Wc.fix (st' := ⟨[(1, (.v (.int .i64 v3), [])), (2, (.ptr 2 0, []))], [(2, .cells (GTerm.q uk) [])], []⟩) [] [1, 2] [2] [] (by kernel_rfl) ?_
                      refine Wc.skip ?_
                      exact ⟨rfl, h⟩
              · refine Wc.condF h427 (by kernel_rfl) ?_
                apply Wc.seq
                refine Wc.region [] [] [1, 2, 63] [2] [] ⟨[(1, (.v (.int .i64 v3), [])), (2, (.ptr 2 0, [])), (63, (.v (.bool (uk.gKind == 4)), []))], [(2, .cells (GTerm.q uk) [])], []⟩ _ (by kernel_rfl) .nil ?_
                rcases oif h with ⟨h432, h⟩ | ⟨h432, h⟩
                · refine Wc.condT h432 (by kernel_rfl) ?_
                  apply Wc.seq
                  obtain ⟨u9y, h433, h⟩ := obind h
                  rcases oif h with ⟨h434, h⟩ | ⟨h434, h⟩
                  · refine Wc.region [{}, {}, { r := some (.v (.bool u9y) []) }, {}, { re := some (.bool true) }] [] [1, 2, 80] [2] [] ⟨[(1, (.v (.int .i64 v3), [])), (2, (.ptr 2 0, [])), (80, (.v (.bool true), []))], [(2, .cells (GTerm.q uk) [])], []⟩ _ (by kernel_rfl) (.cons (cimpl_nameOk h433) (.cons (congrArg AV.bool h434) .nil)) ?_
                    refine Wc.condT rfl (by kernel_rfl) ?_
                    apply Wc.seq
                    refine Wc.region [] [] [4] [] [] ⟨[(4, (.v (.int .i64 401), []))], [], []⟩ _ (by kernel_rfl) .nil ?_
                    refine Wc.ret ?_
                    obtain rfl := Option.some.inj h
                    exact ⟨.inl rfl, by kernel_rfl, by kernel_rfl⟩
                  · rcases oif h with ⟨h435, h⟩ | ⟨h435, h⟩
                    · refine Wc.region [{}, {}, { r := some (.v (.bool u9y) []) }, {}, { re := some (.bool false) }, {}, {}, {}, {}, { re := some (.bool true) }] [] [1, 2, 80] [2] [] ⟨[(1, (.v (.int .i64 v3), [])), (2, (.ptr 2 0, [])), (80, (.v (.bool true), []))], [(2, .cells (GTerm.q uk) [])], []⟩ _ (by kernel_rfl) (.cons (cimpl_nameOk h433) (.cons (congrArg AV.bool h434) (.cons (congrArg AV.bool h435) .nil))) ?_
                      refine Wc.condT rfl (by kernel_rfl) ?_
                      apply Wc.seq
                      refine Wc.region [] [] [4] [] [] ⟨[(4, (.v (.int .i64 401), []))], [], []⟩ _ (by kernel_rfl) .nil ?_
                      refine Wc.ret ?_
                      obtain rfl := Option.some.inj h
                      exact ⟨.inl rfl, by kernel_rfl, by kernel_rfl⟩
                    · obtain ⟨ube, h436, h⟩ := obind h
                      refine Wc.region [{}, {}, { r := some (.v (.bool u9y) []) }, {}, { re := some (.bool false) }, {}, {}, {}, {}, { re := some (.bool false) }, {}, {}, { v := some (.int .i64 (uk.gKids.length : Int)) }, { r := some (.v (.bool ube) []) }] [] [1, 2, 80] [2] [] ⟨[(1, (.v (.int .i64 v3), [])), (2, (.ptr 2 0, [])), (80, (.v (.bool (!ube)), []))], [(2, .cells (GTerm.q uk) [])], []⟩ _ (by kernel_rfl) (.cons (cimpl_nameOk h433) (.cons (congrArg AV.bool h434) (.cons (congrArg AV.bool h435) (.cons (len_obl GTerm.c uk.gKids) (.cons (cimpl_within h436) .nil))))) ?_
                      rcases oif h with ⟨h437, h⟩ | ⟨h437, h⟩
                      · refine Wc.condT h437 (by kernel_rfl) ?_
                        apply Wc.seq
                        refine Wc.region [] [] [4] [] [] ⟨[(4, (.v (.int .i64 401), []))], [], []⟩ _ (by kernel_rfl) .nil ?_
                        refine Wc.ret ?_
                        obtain rfl := Option.some.inj h
                        exact ⟨.inl rfl, by kernel_rfl, by kernel_rfl⟩
                      · refine Wc.condF h437 (by kernel_rfl) ?_
                        refine Wc.fix (st' := ⟨[(1, (.v (.int .i64 v3), [])), (2, (.ptr 2 0, []))], [(2, .cells (GTerm.q uk) [])], []⟩) [] [1, 2] [2] [] (by kernel_rfl) ?_
                        refine Wc.skip ?_
                        exact ⟨rfl, h⟩
                · refine Wc.condF h432 (by kernel_rfl) ?_
                  apply Wc.seq
                  refine Wc.region [] [] [4] [] [] ⟨[(4, (.v (.int .i64 401), []))], [], []⟩ _ (by kernel_rfl) .nil ?_
                  refine Wc.ret ?_
                  obtain rfl := Option.some.inj h
                  exact ⟨.inl rfl, by kernel_rfl, by kernel_rfl⟩
        · rintro st ⟨rfl, h⟩
          apply Wc.seq
          refine Wc.region [] [] [1, 2, 5] [2] [] ⟨[(1, (.v (.int .i64 v3), [])), (2, (.ptr 2 0, [])), (5, (.v (.int .i64 1), []))], [(2, .cells (GTerm.q uk) [])], []⟩ _ (by kernel_rfl) .nil ?_
          apply Wc.seq
          apply Wc.seq
          refine Wc.region [{}, {}, { v := some (.int .i64 (uk.gKids.length : Int)) }] [] [1, 5, 82, 83, 84] [] [] ⟨[(1, (.v (.int .i64 v3), [])), (5, (.v (.int .i64 1), [])), (82, (.v (.sl (List.map GTerm.c uk.gKids)), [])), (83, (.v (.int .i64 (uk.gKids.length : Int)), [])), (84, (.v (.int .i64 0), []))], [], []⟩ _ (by kernel_rfl) (.cons (len_obl GTerm.c uk.gKids) .nil) ?_
          obtain ⟨out2, h412, h⟩ := obind h
          refine Wc.lastJ (fun st => ∃ (u7t : Int), out2 = .done u7t ∧ st = ⟨[(5, (.v (.int .i64 u7t), []))], [], []⟩) ?_ ?_
          · refine Wc.block ?_
            refine Wc.loop (fun m st => ∃ (u1z : Int) (u2c : Int), st = ⟨[(1, (.v (.int .i64 v3), [])), (5, (.v (.int .i64 u1z), [])), (82, (.v (.sl (List.map GTerm.c uk.gKids)), [])), (83, (.v (.int .i64 (uk.gKids.length : Int)), [])), (84, (.v (.int .i64 u2c), []))], [], []⟩ ∧ pimpl_sized_L2 k (pimpl_sized k) uk v3 m u1z u2c = some out2) ?_ k ⟨_, _, rfl, h412⟩
            rintro m st ⟨u1z, u2c, rfl, h412⟩
            cases m with
            | zero => exact (onone h412).elim
            | succ m =>
              apply Wc.seq
              refine Wc.region [] [] [1, 5, 82, 83, 84, 85] [] [] ⟨[(1, (.v (.int .i64 v3), [])), (5, (.v (.int .i64 u1z), [])), (82, (.v (.sl (List.map GTerm.c uk.gKids)), [])), (83, (.v (.int .i64 (uk.gKids.length : Int)), [])), (84, (.v (.int .i64 u2c), [])), (85, (.v (.bool (decide (u2c < (uk.gKids.length : Int)))), []))], [], []⟩ _ (by kernel_rfl) .nil ?_
              apply Wc.seq
              rcases oif h412 with ⟨h413, h412⟩ | ⟨h413, h412⟩
              · refine Wc.condT h413 (by kernel_rfl) ?_
                refine Wc.fix (st' := ⟨[(1, (.v (.int .i64 v3), [])), (5, (.v (.int .i64 u1z), [])), (82, (.v (.sl (List.map GTerm.c uk.gKids)), [])), (83, (.v (.int .i64 (uk.gKids.length : Int)), [])), (84, (.v (.int .i64 u2c), []))], [], []⟩) [] [1, 5, 82, 83, 84] [] [] (by kernel_rfl) ?_
                refine Wc.skip ?_
                apply Wc.seq
                refine Wc.block ?_
                apply Wc.seq
                obtain ⟨u7s, h414, h412⟩ := obind h412
                refine Wc.region [{ v := some (.vptr (GTerm.q u7s)) }] [] [1, 5, 7, 82, 83, 84] [7] [] ⟨[(1, (.v (.int .i64 v3), [])), (5, (.v (.int .i64 u1z), [])), (7, (.ptr 7 0, [])), (82, (.v (.sl (List.map GTerm.c uk.gKids)), [])), (83, (.v (.int .i64 (uk.gKids.length : Int)), [])), (84, (.v (.int .i64 u2c), []))], [(7, .cells (GTerm.q u7s) [])], []⟩ _ (by kernel_rfl) (.cons (at_obl (c := GTerm.c) (GTerm.c_eq u7s) GTerm.c_len h414) (.cons (len_ok 4 (GTerm.q u7s)) .nil)) ?_
                apply Wc.seq
                obtain ⟨u5a, h415, h412⟩ := obind h412
                refine Wc.region [{}, {}, {}, {}, { r := some (.v (.int .i64 u5a) []) }] [] [1, 5, 82, 83, 84] [] [] ⟨[(1, (.v (.int .i64 v3), [])), (5, (.v (.int .i64 (wr.i64 (u1z + u5a))), [])), (82, (.v (.sl (List.map GTerm.c uk.gKids)), [])), (83, (.v (.int .i64 (uk.gKids.length : Int)), [])), (84, (.v (.int .i64 u2c), []))], [], []⟩ _ (by kernel_rfl) (.cons (ih_pimpl_sized h415) .nil) ?_
                apply Wc.seq
                refine Wc.region [] [] [1, 5, 82, 83, 84, 95] [] [] ⟨[(1, (.v (.int .i64 v3), [])), (5, (.v (.int .i64 (wr.i64 (u1z + u5a))), [])), (82, (.v (.sl (List.map GTerm.c uk.gKids)), [])), (83, (.v (.int .i64 (uk.gKids.length : Int)), [])), (84, (.v (.int .i64 u2c), [])), (95, (.v (.bool (decide ((wr.i64 (u1z + u5a)) > 400))), []))], [], []⟩ _ (by kernel_rfl) .nil ?_
                rcases oif h412 with ⟨h416, h412⟩ | ⟨h416, h412⟩
                · refine Wc.condT h416 (by kernel_rfl) ?_
                  apply Wc.seq
                  refine Wc.region [] [] [4] [] [] ⟨[(4, (.v (.int .i64 401), []))], [], []⟩ _ (by kernel_rfl) .nil ?_
                  refine Wc.ret ?_
                  obtain rfl := Option.some.inj h412
                  obtain rfl := Option.some.inj h
                  exact ⟨.inl rfl, by kernel_rfl, by kernel_rfl⟩
                · refine Wc.condF h416 (by kernel_rfl) ?_
                  refine Wc.fix (st' := ⟨[(1, (.v (.int .i64 v3), [])), (5, (.v (.int .i64 (wr.i64 (u1z + u5a))), [])), (82, (.v (.sl (List.map GTerm.c uk.gKids)), [])), (83, (.v (.int .i64 (uk.gKids.length : Int)), [])), (84, (.v (.int .i64 u2c), []))], [], []⟩) [] [1, 5, 82, 83, 84] [] [] (by kernel_rfl) ?_
                  refine Wc.skip ?_
                  refine Wc.region [] [] [1, 5, 82, 83, 84] [] [] ⟨[(1, (.v (.int .i64 v3), [])), (5, (.v (.int .i64 (wr.i64 (u1z + u5a))), [])), (82, (.v (.sl (List.map GTerm.c uk.gKids)), [])), (83, (.v (.int .i64 (uk.gKids.length : Int)), [])), (84, (.v (.int .i64 (wr.i64 (u2c + 1))), []))], [], []⟩ _ (by kernel_rfl) .nil ?_
                  exact ⟨_, Nat.lt_succ_self _, _, _, rfl, h412⟩
              · refine Wc.condF h413 (by kernel_rfl) ?_
                refine Wc.fix (st' := ⟨[(5, (.v (.int .i64 u1z), []))], [], []⟩) [] [5] [] [] (by kernel_rfl) ?_
                refine Wc.exit ?_
                obtain rfl := Option.some.inj h412
                exact ⟨_, rfl, rfl⟩
          · rintro st ⟨u7t, rfl, rfl⟩
            apply Wc.seq
            refine Wc.region [] [] [4] [] [] ⟨[(4, (.v (.int .i64 u7t), []))], [], []⟩ _ (by kernel_rfl) .nil ?_
            refine Wc.ret ?_
            obtain rfl := Option.some.inj h
            exact ⟨.inl rfl, by kernel_rfl, by kernel_rfl⟩
theorem cimpl_sized {k : Nat} {uk : GTerm} {v3 : Int} {r : Int} (h : pimpl_sized k uk v3 = some r) : FnO Try.prog 125 [.v (.agg (GTerm.q uk)) [], .v (.int .i64 v3) []] (.v (.int .i64 r) []) [] := (all_pimpl_sized k) h

def pimpl_TermOk (k : Nat) (u9z : GTerm) : Option Bool :=
  (pimpl_sized k u9z 1).bind fun ubf =>
  some (decide (ubf ≤ 400))
theorem cimpl_TermOk {k : Nat} {u9z : GTerm} {r : Bool} (h : pimpl_TermOk k u9z = some r) : FnO Try.prog 81 [.v (.agg (GTerm.q u9z)) []] (.v (.bool r) []) [] := by
  refine FnO.of Try.func81 (rfl : Try.f81.body = some _) (Nat.le_of_ble_eq_true (by kernel_rfl)) (Nat.le_of_ble_eq_true (by kernel_rfl)) ?_
  intro w0 X0 Fin pv0 pb
  unfold pimpl_TermOk at h
  apply Wc.seq
  refine Wc.region [] [] [1] [1] [] ⟨[(1, (.ptr 1 0, []))], [(1, .cells (GTerm.q u9z) [])], []⟩ _ (by kernel_rfl) .nil ?_
  apply Wc.seq
  obtain ⟨ubf, h438, h⟩ := obind h
  refine Wc.region [{}, { r := some (.v (.int .i64 ubf) []) }] [] [2] [] [] ⟨[(2, (.v (.bool (decide (ubf ≤ 400))), []))], [], []⟩ _ (by kernel_rfl) (.cons (cimpl_sized h438) .nil) ?_
  refine Wc.ret ?_
  obtain rfl := Option.some.inj h
  exact ⟨.inl rfl, by kernel_rfl, by kernel_rfl⟩

def pslices_Index___int_int__L1 (k : Nat) (zk : List Int) (u1d : Int) : Nat → Int → Option (Out Int Unit)
  | 0, _ => none
  | m + 1, u1e =>
    if (decide (u1e < (zk.length : Int))) = true then
      (at' zk u1e).bind fun ua0 =>
      if (u1d == ua0) = true then
        some (.ret u1e)
      else
        pslices_Index___int_int__L1 k zk u1d m (wr.i64 (u1e + 1))
    else
      some (.done ())
def pslices_Index___int_int_ (k : Nat) (zk : List Int) (u1d : Int) : Option Int :=
  (pslices_Index___int_int__L1 k zk u1d k 0).bind fun out1 => match out1 with
  | .ret r => some r
  | .done () =>
    some (-1)
theorem cslices_Index___int_int_ {k : Nat} {zk : List Int} {u1d : Int} {r : Int} (h : pslices_Index___int_int_ k zk u1d = some r) : FnO Try.prog 146 [.v (.sl (List.map cI.i64 zk)) [], .v (.int .i64 u1d) []] (.v (.int .i64 r) []) [] := by
  refine FnO.of Try.func146 (rfl : Try.f146.body = some _) (Nat.le_of_ble_eq_true (by kernel_rfl)) (Nat.le_of_ble_eq_true (by kernel_rfl)) ?_
  intro w0 X0 Fin pv0 pb
  unfold pslices_Index___int_int_ at h
  apply Wc.seq
  refine Wc.region [] [] [0, 1] [] [] ⟨[(0, (.v (.sl (List.map cI.i64 zk)), [])), (1, (.v (.int .i64 u1d), []))], [], []⟩ _ (by kernel_rfl) .nil ?_
  apply Wc.seq
  apply Wc.seq
  refine Wc.region [{}, { v := some (.int .i64 (zk.length : Int)) }] [] [0, 1, 7, 8] [] [] ⟨[(0, (.v (.sl (List.map cI.i64 zk)), [])), (1, (.v (.int .i64 u1d), [])), (7, (.v (.int .i64 (zk.length : Int)), [])), (8, (.v (.int .i64 0), []))], [], []⟩ _ (by kernel_rfl) (.cons (len_obl cI.i64 zk) .nil) ?_
  obtain ⟨out1, h439, h⟩ := obind h
  refine Wc.lastJ (fun st => out1 = .done () ∧ st = ⟨[], [], []⟩) ?_ ?_
  · refine Wc.block ?_
    refine Wc.loop (fun m st => ∃ (u1e : Int), st = ⟨[(0, (.v (.sl (List.map cI.i64 zk)), [])), (1, (.v (.int .i64 u1d), [])), (7, (.v (.int .i64 (zk.length : Int)), [])), (8, (.v (.int .i64 u1e), []))], [], []⟩ ∧ pslices_Index___int_int__L1 k zk u1d m u1e = some out1) ?_ k ⟨_, rfl, h439⟩
    rintro m st ⟨u1e, rfl, h439⟩
    cases m with
    | zero => exact (onone h439).elim
    | succ m =>
      apply Wc.seq
      refine Wc.region [] [] [0, 1, 7, 8, 9] [] [] ⟨[(0, (.v (.sl (List.map cI.i64 zk)), [])), (1, (.v (.int .i64 u1d), [])), (7, (.v (.int .i64 (zk.length : Int)), [])), (8, (.v (.int .i64 u1e), [])), (9, (.v (.bool (decide (u1e < (zk.length : Int)))), []))], [], []⟩ _ (by kernel_rfl) .nil ?_
      apply Wc.seq
      rcases oif h439 with ⟨h440, h439⟩ | ⟨h440, h439⟩
      · refine Wc.condT h440 (by kernel_rfl) ?_
        refine Wc.fix (st' := ⟨[(0, (.v (.sl (List.map cI.i64 zk)), [])), (1, (.v (.int .i64 u1d), [])), (7, (.v (.int .i64 (zk.length : Int)), [])), (8, (.v (.int .i64 u1e), []))], [], []⟩) [] [0, 1, 7, 8] [] [] (by kernel_rfl) ?_
        refine Wc.skip ?_
        apply Wc.seq
        refine Wc.block ?_
        apply Wc.seq
        refine Wc.region [] [] [0, 1, 5, 7, 8] [] [] ⟨[(0, (.v (.sl (List.map cI.i64 zk)), [])), (1, (.v (.int .i64 u1d), [])), (5, (.v (.int .i64 u1e), [])), (7, (.v (.int .i64 (zk.length : Int)), [])), (8, (.v (.int .i64 u1e), []))], [], []⟩ _ (by kernel_rfl) .nil ?_
        apply Wc.seq
        obtain ⟨ua0, h441, h439⟩ := obind h439
        refine Wc.region [{}, {}, {}, { v := some (.vptr [.int .i64 ua0]) }] [] [0, 1, 5, 7, 8, 16] [] [] ⟨[(0, (.v (.sl (List.map cI.i64 zk)), [])), (1, (.v (.int .i64 u1d), [])), (5, (.v (.int .i64 u1e), [])), (7, (.v (.int .i64 (zk.length : Int)), [])), (8, (.v (.int .i64 u1e), [])), (16, (.v (.bool (u1d == ua0)), []))], [], []⟩ _ (by kernel_rfl) (.cons (at_obl (c := cI.i64) rfl cI.i64_len h441) (.cons (len_ok 1 [.int .i64 ua0]) .nil)) ?_
        rcases oif h439 with ⟨h442, h439⟩ | ⟨h442, h439⟩
        · refine Wc.condT h442 (by kernel_rfl) ?_
          apply Wc.seq
          refine Wc.region [] [] [4] [] [] ⟨[(4, (.v (.int .i64 u1e), []))], [], []⟩ _ (by kernel_rfl) .nil ?_
          refine Wc.ret ?_
          obtain rfl := Option.some.inj h439
          obtain rfl := Option.some.inj h
          exact ⟨.inl rfl, by kernel_rfl, by kernel_rfl⟩
        · refine Wc.condF h442 (by kernel_rfl) ?_
          refine Wc.fix (st' := ⟨[(0, (.v (.sl (List.map cI.i64 zk)), [])), (1, (.v (.int .i64 u1d), [])), (7, (.v (.int .i64 (zk.length : Int)), [])), (8, (.v (.int .i64 u1e), []))], [], []⟩) [] [0, 1, 7, 8] [] [] (by kernel_rfl) ?_
          refine Wc.skip ?_
          refine Wc.region [] [] [0, 1, 7, 8] [] [] ⟨[(0, (.v (.sl (List.map cI.i64 zk)), [])), (1, (.v (.int .i64 u1d), [])), (7, (.v (.int .i64 (zk.length : Int)), [])), (8, (.v (.int .i64 (wr.i64 (u1e + 1))), []))], [], []⟩ _ (by kernel_rfl) .nil ?_
          exact ⟨_, Nat.lt_succ_self _, _, rfl, h439⟩
      · refine Wc.condF h440 (by kernel_rfl) ?_
        refine Wc.fix (st' := ⟨[], [], []⟩) [] [] [] [] (by kernel_rfl) ?_
        refine Wc.exit ?_
        obtain rfl := Option.some.inj h439
        exact ⟨rfl, rfl⟩
  · rintro st ⟨rfl, rfl⟩
    apply Wc.seq
    refine Wc.region [] [] [4] [] [] ⟨[(4, (.v (.int .i64 (-1)), []))], [], []⟩ _ (by kernel_rfl) .nil ?_
    refine Wc.ret ?_
    obtain rfl := Option.some.inj h
    exact ⟨.inl rfl, by kernel_rfl, by kernel_rfl⟩

def pslices_Contains___int_int_ (k : Nat) (ua1 : List Int) (ua2 : Int) : Option Bool :=
  (pslices_Index___int_int_ k ua1 ua2).bind fun ubg =>
  some (decide (ubg ≥ 0))
theorem cslices_Contains___int_int_ {k : Nat} {ua1 : List Int} {ua2 : Int} {r : Bool} (h : pslices_Contains___int_int_ k ua1 ua2 = some r) : FnO Try.prog 126 [.v (.sl (List.map cI.i64 ua1)) [], .v (.int .i64 ua2) []] (.v (.bool r) []) [] := by
  refine FnO.of Try.func126 (rfl : Try.f126.body = some _) (Nat.le_of_ble_eq_true (by kernel_rfl)) (Nat.le_of_ble_eq_true (by kernel_rfl)) ?_
  intro w0 X0 Fin pv0 pb
  unfold pslices_Contains___int_int_ at h
  apply Wc.seq
  refine Wc.region [] [] [0, 1] [] [] ⟨[(0, (.v (.sl (List.map cI.i64 ua1)), [])), (1, (.v (.int .i64 ua2), []))], [], []⟩ _ (by kernel_rfl) .nil ?_
  apply Wc.seq
  obtain ⟨ubg, h443, h⟩ := obind h
  refine Wc.region [{}, {}, { r := some (.v (.int .i64 ubg) []) }] [] [4] [] [] ⟨[(4, (.v (.bool (decide (ubg ≥ 0))), []))], [], []⟩ _ (by kernel_rfl) (.cons (cslices_Index___int_int_ h443) .nil) ?_
  refine Wc.ret ?_
  obtain rfl := Option.some.inj h
  exact ⟨.inl rfl, by kernel_rfl, by kernel_rfl⟩

def pimpl_wordsOf_L1 (k : Nat) (rimpl_wordsOf : GTerm → (List Int) → Option ((List GIns) × (List Int))) (um : GTerm) : Nat → (List Int) → (List GIns) → Int → Option (Out ((List GIns) × (List Int)) ((List Int) × (List GIns)))
  | 0, _, _, _ => none
  | m + 1, u4d, u1f, u2d =>
    if (decide (u2d < (um.gKids.length : Int))) = true then
      (at' um.gKids u2d).bind fun u6e =>
      (rimpl_wordsOf u6e u4d).bind fun u20 =>
      if u1f.length + u20.1.length ≤ 1073741824 then
        pimpl_wordsOf_L1 k rimpl_wordsOf um m u20.2 (u1f ++ u20.1) (wr.i64 (u2d + 1))
      else none
    else
      some (.done (u4d, u1f))
mutual
def pimpl_wordsOf : Nat → GTerm → (List Int) → Option ((List GIns) × (List Int))
  | 0, _, _ => none
  | k + 1, um, z6 =>
    if (um.gKind == 2) = true then
      some ([GIns.mk 1 um.gName 0 0], z6)
    else
      if (um.gKind == 3) = true then
        some ([GIns.mk 2 (bs []) um.gNum 0], z6)
      else
        if (um.gKind == 1) = true then
          (pslices_Contains___int_int_ k z6 um.gNum).bind fun ubh =>
          if ubh = true then
            some ([GIns.mk 4 (bs []) um.gNum 0], z6)
          else
            if z6.length + [um.gNum].length ≤ 1073741824 then
              some ([GIns.mk 3 (bs []) um.gNum 0], z6 ++ [um.gNum])
            else none
        else
          (pimpl_wordsOf_L1 k (pimpl_wordsOf k) um k z6 [GIns.mk 5 um.gName 0 (um.gKids.length : Int)] 0).bind fun out1 => match out1 with
          | .ret r => some r
          | .done (u7u, u7v) =>
            some (u7v, u7u)
end
set_option maxHeartbeats 4000000 in
theorem all_pimpl_wordsOf : ∀ k : Nat, (∀ {um : GTerm} {z6 : List Int} {r : (List GIns) × (List Int)}, pimpl_wordsOf k um z6 = some r → FnO Try.prog 127 [.v (.agg (GTerm.q um)) [], .v (.slx) [(0, .ex 3 false (List.map cI.i64 z6))]] (.v (.tup [.sl (List.map GIns.c r.1), .slx]) [(0, .app 158), (1, .ex 3 false (List.map cI.i64 r.2))]) []) := by
  intro k
  induction k with
  | zero =>
    · intro um z6 r h
      exact (onone (by rw [pimpl_wordsOf] at h; exact h)).elim
  | succ k ih =>
    have ih_pimpl_wordsOf := @ih
    · intro um z6 r h
      rw [pimpl_wordsOf] at h
      refine FnO.of Try.func127 (rfl : Try.f127.body = some _) (Nat.le_of_ble_eq_true (by kernel_rfl)) (Nat.le_of_ble_eq_true (by kernel_rfl)) ?_
      intro w0 X0 Fin pv0 pb
      apply Wc.seq
      refine Wc.region [] [] [1, 2] [2] [] ⟨[(1, (.v (.slx), [(0, .ex 3 false (List.map cI.i64 z6))])), (2, (.ptr 2 0, []))], [(2, .cells (GTerm.q um) [])], []⟩ _ (by kernel_rfl) .nil ?_
      apply Wc.seq
      apply Wc.seq
      refine Wc.region [] [] [1, 2, 11] [2] [] ⟨[(1, (.v (.slx), [(0, .ex 3 false (List.map cI.i64 z6))])), (2, (.ptr 2 0, [])), (11, (.v (.int .i64 um.gKind), []))], [(2, .cells (GTerm.q um) [])], []⟩ _ (by kernel_rfl) .nil ?_
      refine Wc.block ?_
      apply Wc.seq
      refine Wc.region [] [] [1, 2, 11, 12] [2] [] ⟨[(1, (.v (.slx), [(0, .ex 3 false (List.map cI.i64 z6))])), (2, (.ptr 2 0, [])), (11, (.v (.int .i64 um.gKind), [])), (12, (.v (.bool (um.gKind == 2)), []))], [(2, .cells (GTerm.q um) [])], []⟩ _ (by kernel_rfl) .nil ?_
      rcases oif h with ⟨h455, h⟩ | ⟨h455, h⟩
      · refine Wc.condT h455 (by kernel_rfl) ?_
        apply Wc.seq
        refine Wc.region [{}, {}, {}, { c := some (List.map GIns.c [GIns.mk 1 um.gName 0 0]) }, { tk := [1] }, { tk := [17] }, { tk := [18] }] [] [4, 5] [] [] ⟨[(4, (.v (.sl (List.map GIns.c [GIns.mk 1 um.gName 0 0])), [(0, .app 158)])), (5, (.v (.slx), [(0, .ex 3 false (List.map cI.i64 z6))]))], [], []⟩ _ (by kernel_rfl) (.cons (cl_cons (c := GIns.c) (x := GIns.mk 1 um.gName 0 0) (GIns.c_eq (GIns.mk 1 um.gName 0 0)) (cl_nil GIns.c)) .nil) ?_
        refine Wc.ret ?_
        obtain rfl := Option.some.inj h
        exact ⟨.inl rfl, by kernel_rfl, by kernel_rfl⟩
      · refine Wc.condF h455 (by kernel_rfl) ?_
        apply Wc.seq
        refine Wc.region [] [] [1, 2, 11, 19] [2] [] ⟨[(1, (.v (.slx), [(0, .ex 3 false (List.map cI.i64 z6))])), (2, (.ptr 2 0, [])), (11, (.v (.int .i64 um.gKind), [])), (19, (.v (.bool (um.gKind == 3)), []))], [(2, .cells (GTerm.q um) [])], []⟩ _ (by kernel_rfl) .nil ?_
        rcases oif h with ⟨h456, h⟩ | ⟨h456, h⟩
        · refine Wc.condT h456 (by kernel_rfl) ?_
          apply Wc.seq
          refine Wc.region [{}, {}, {}, { c := some (List.map GIns.c [GIns.mk 2 (bs []) um.gNum 0]) }, { tk := [1] }, { tk := [24] }, { tk := [25] }] [] [4, 5] [] [] ⟨[(4, (.v (.sl (List.map GIns.c [GIns.mk 2 (bs []) um.gNum 0])), [(0, .app 158)])), (5, (.v (.slx), [(0, .ex 3 false (List.map cI.i64 z6))]))], [], []⟩ _ (by kernel_rfl) (.cons (cl_cons (c := GIns.c) (x := GIns.mk 2 (bs []) um.gNum 0) (GIns.c_eq (GIns.mk 2 (bs []) um.gNum 0)) (cl_nil GIns.c)) .nil) ?_
          refine Wc.ret ?_
          obtain rfl := Option.some.inj h
          exact ⟨.inl rfl, by kernel_rfl, by kernel_rfl⟩
        · refine Wc.condF h456 (by kernel_rfl) ?_
          apply Wc.seq
          refine Wc.region [] [] [1, 2, 26] [2] [] ⟨[(1, (.v (.slx), [(0, .ex 3 false (List.map cI.i64 z6))])), (2, (.ptr 2 0, [])), (26, (.v (.bool (um.gKind == 1)), []))], [(2, .cells (GTerm.q um) [])], []⟩ _ (by kernel_rfl) .nil ?_
          rcases oif h with ⟨h457, h⟩ | ⟨h457, h⟩
          · refine Wc.condT h457 (by kernel_rfl) ?_
            apply Wc.seq
            apply Wc.seq
            obtain ⟨ubh, h458, h⟩ := obind h
            refine Wc.region [{}, {}, {}, { r := some (.v (.bool ubh) []) }] [] [1, 2, 31] [2] [] ⟨[(1, (.v (.slx), [(0, .ex 3 false (List.map cI.i64 z6))])), (2, (.ptr 2 0, [])), (31, (.v (.bool ubh), []))], [(2, .cells (GTerm.q um) [])], []⟩ _ (by kernel_rfl) (.cons (cslices_Contains___int_int_ h458) .nil) ?_
            rcases oif h with ⟨h459, h⟩ | ⟨h459, h⟩
            · refine Wc.condT h459 (by kernel_rfl) ?_
              apply Wc.seq
              refine Wc.region [{}, {}, {}, { c := some (List.map GIns.c [GIns.mk 4 (bs []) um.gNum 0]) }, { tk := [1] }, { tk := [35] }, { tk := [36] }] [] [4, 5] [] [] ⟨[(4, (.v (.sl (List.map GIns.c [GIns.mk 4 (bs []) um.gNum 0])), [(0, .app 158)])), (5, (.v (.slx), [(0, .ex 3 false (List.map cI.i64 z6))]))], [], []⟩ _ (by kernel_rfl) (.cons (cl_cons (c := GIns.c) (x := GIns.mk 4 (bs []) um.gNum 0) (GIns.c_eq (GIns.mk 4 (bs []) um.gNum 0)) (cl_nil GIns.c)) .nil) ?_
              refine Wc.ret ?_
              obtain rfl := Option.some.inj h
              exact ⟨.inl rfl, by kernel_rfl, by kernel_rfl⟩
            · refine Wc.condF h459 (by kernel_rfl) ?_
              refine Wc.fix (st' := ⟨[(1, (.v (.slx), [(0, .ex 3 false (List.map cI.i64 z6))])), (2, (.ptr 2 0, []))], [(2, .cells (GTerm.q um) [])], []⟩) [] [1, 2] [2] [] (by kernel_rfl) ?_
              refine Wc.skip ?_
              apply Wc.seq
              obtain ⟨h460, h⟩ := oguard h
              refine Wc.draw hmix [{}, {}, {}, { c := some (List.map GIns.c [GIns.mk 3 (bs []) um.gNum 0]) }, { tk := [1] }, {}, {}, { c := some (List.map cI.i64 [um.gNum]) }, { c := some (List.map cI.i64 (z6 ++ [um.gNum])), tk := [41], md := 1 }, { tk := [40] }, { tk := [45] }] [] [4, 5] [] [] ⟨[(4, (.v (.sl (List.map GIns.c [GIns.mk 3 (bs []) um.gNum 0])), [(0, .app 158)])), (5, (.v (.slx), [(0, .ex 3 false (List.map cI.i64 (z6 ++ [um.gNum])))]))], [], []⟩ _ (by kernel_rfl) (fun X => by kernel_rfl) (.cons (cl_cons (c := GIns.c) (x := GIns.mk 3 (bs []) um.gNum 0) (GIns.c_eq (GIns.mk 3 (bs []) um.gNum 0)) (cl_nil GIns.c)) (.cons (cl_cons (c := cI.i64) (x := um.gNum) rfl (cl_nil cI.i64)) (.cons (app_re2 cI.i64 z6 [um.gNum]) (.cons (app_leaf (c := cI.i64) (ys := [um.gNum]) cI.i64_leaf) (.cons (app_obl2 (c := cI.i64) (xs := z6) (ys := [um.gNum]) cI.i64_len h460) .nil))))) ?_
              refine Wc.ret ?_
              obtain rfl := Option.some.inj h
              exact ⟨.inl rfl, by kernel_rfl, by kernel_rfl⟩
          · refine Wc.condF h457 (by kernel_rfl) ?_
            refine Wc.fix (st' := ⟨[(1, (.v (.slx), [(0, .ex 3 false (List.map cI.i64 z6))])), (2, (.ptr 2 0, []))], [(2, .cells (GTerm.q um) [])], []⟩) [] [1, 2] [2] [] (by kernel_rfl) ?_
            refine Wc.skip ?_
            apply Wc.seq
            refine Wc.region [{}, {}, {}, {}, { v := some (.int .i64 (um.gKids.length : Int)) }, {}, { c := some (List.map GIns.c [GIns.mk 5 um.gName 0 (um.gKids.length : Int)]) }, { tk := [52] }] [] [1, 2, 6] [2] [] ⟨[(1, (.v (.slx), [(0, .ex 3 false (List.map cI.i64 z6))])), (2, (.ptr 2 0, [])), (6, (.v (.sl (List.map GIns.c [GIns.mk 5 um.gName 0 (um.gKids.length : Int)])), [(0, .app 158)]))], [(2, .cells (GTerm.q um) [])], []⟩ _ (by kernel_rfl) (.cons (len_obl GTerm.c um.gKids) (.cons (cl_cons (c := GIns.c) (x := GIns.mk 5 um.gName 0 (um.gKids.length : Int)) (GIns.c_eq (GIns.mk 5 um.gName 0 (um.gKids.length : Int))) (cl_nil GIns.c)) .nil)) ?_
            apply Wc.seq
            apply Wc.seq
            refine Wc.region [{}, {}, { v := some (.int .i64 (um.gKids.length : Int)) }] [] [1, 6, 54, 55, 56] [] [] ⟨[(1, (.v (.slx), [(0, .ex 3 false (List.map cI.i64 z6))])), (6, (.v (.sl (List.map GIns.c [GIns.mk 5 um.gName 0 (um.gKids.length : Int)])), [(0, .app 158)])), (54, (.v (.sl (List.map GTerm.c um.gKids)), [])), (55, (.v (.int .i64 (um.gKids.length : Int)), [])), (56, (.v (.int .i64 0), []))], [], []⟩ _ (by kernel_rfl) (.cons (len_obl GTerm.c um.gKids) .nil) ?_
            obtain ⟨out1, h461, h⟩ := obind h
            refine Wc.lastJ (fun st => ∃ (u7u : List Int) (u7v : List GIns), out1 = .done (u7u, u7v) ∧ st = ⟨[(1, (.v (.slx), [(0, .ex 3 false (List.map cI.i64 u7u))])), (6, (.v (.sl (List.map GIns.c u7v)), [(0, .app 158)]))], [], []⟩) ?_ ?_
            · refine Wc.block ?_
              refine Wc.loop (fun m st => ∃ (u4d : List Int) (u1f : List GIns) (u2d : Int), st = ⟨[(1, (.v (.slx), [(0, .ex 3 false (List.map cI.i64 u4d))])), (6, (.v (.sl (List.map GIns.c u1f)), [(0, .app 158)])), (54, (.v (.sl (List.map GTerm.c um.gKids)), [])), (55, (.v (.int .i64 (um.gKids.length : Int)), [])), (56, (.v (.int .i64 u2d), []))], [], []⟩ ∧ pimpl_wordsOf_L1 k (pimpl_wordsOf k) um m u4d u1f u2d = some out1) ?_ k ⟨_, _, _, rfl, h461⟩
              rintro m st ⟨u4d, u1f, u2d, rfl, h461⟩
              cases m with
              | zero => exact (onone h461).elim
              | succ m =>
                apply Wc.seq
                refine Wc.region [] [] [1, 6, 54, 55, 56, 57] [] [] ⟨[(1, (.v (.slx), [(0, .ex 3 false (List.map cI.i64 u4d))])), (6, (.v (.sl (List.map GIns.c u1f)), [(0, .app 158)])), (54, (.v (.sl (List.map GTerm.c um.gKids)), [])), (55, (.v (.int .i64 (um.gKids.length : Int)), [])), (56, (.v (.int .i64 u2d), [])), (57, (.v (.bool (decide (u2d < (um.gKids.length : Int)))), []))], [], []⟩ _ (by kernel_rfl) .nil ?_
                apply Wc.seq
                rcases oif h461 with ⟨h462, h461⟩ | ⟨h462, h461⟩
                · refine Wc.condT h462 (by kernel_rfl) ?_
                  refine Wc.fix (st' := ⟨[(1, (.v (.slx), [(0, .ex 3 false (List.map cI.i64 u4d))])), (6, (.v (.sl (List.map GIns.c u1f)), [(0, .app 158)])), (54, (.v (.sl (List.map GTerm.c um.gKids)), [])), (55, (.v (.int .i64 (um.gKids.length : Int)), [])), (56, (.v (.int .i64 u2d), []))], [], []⟩) [] [1, 6, 54, 55, 56] [] [] (by kernel_rfl) ?_
                  refine Wc.skip ?_
                  apply Wc.seq
                  refine Wc.block ?_
                  apply Wc.seq
                  obtain ⟨u6e, h463, h461⟩ := obind h461
                  refine Wc.region [{ v := some (.vptr (GTerm.q u6e)) }] [] [1, 6, 8, 54, 55, 56] [8] [] ⟨[(1, (.v (.slx), [(0, .ex 3 false (List.map cI.i64 u4d))])), (6, (.v (.sl (List.map GIns.c u1f)), [(0, .app 158)])), (8, (.ptr 8 0, [])), (54, (.v (.sl (List.map GTerm.c um.gKids)), [])), (55, (.v (.int .i64 (um.gKids.length : Int)), [])), (56, (.v (.int .i64 u2d), []))], [(8, .cells (GTerm.q u6e) [])], []⟩ _ (by kernel_rfl) (.cons (at_obl (c := GTerm.c) (GTerm.c_eq u6e) GTerm.c_len h463) (.cons (len_ok 4 (GTerm.q u6e)) .nil)) ?_
                  apply Wc.seq
                  refine Wc.region [] [] [1, 6, 8, 54, 55, 56] [8] [] ⟨[(1, (.v (.slx), [(0, .ex 3 false (List.map cI.i64 u4d))])), (6, (.v (.sl (List.map GIns.c u1f)), [(0, .app 158)])), (8, (.ptr 8 0, [])), (54, (.v (.sl (List.map GTerm.c um.gKids)), [])), (55, (.v (.int .i64 (um.gKids.length : Int)), [])), (56, (.v (.int .i64 u2d), []))], [(8, .cells (GTerm.q u6e) [])], []⟩ _ (by kernel_rfl) .nil ?_
                  apply Wc.seq
                  obtain ⟨u20, h464, h461⟩ := obind h461
                  refine Wc.region [{}, { tk := [1] }, { tk := [62], r := some (.v (.tup [.sl (List.map GIns.c u20.1), .slx]) [(0, .app 158), (1, .ex 3 false (List.map cI.i64 u20.2))]) }, { tk := [63] }, { tk := [60] }, { tk := [60] }, { tk := [64] }, { tk := [65] }] [] [1, 6, 9, 54, 55, 56] [] [] ⟨[(1, (.v (.slx), [(0, .ex 3 false (List.map cI.i64 u20.2))])), (6, (.v (.sl (List.map GIns.c u1f)), [(0, .app 158)])), (9, (.v (.sl (List.map GIns.c u20.1)), [(0, .app 158)])), (54, (.v (.sl (List.map GTerm.c um.gKids)), [])), (55, (.v (.int .i64 (um.gKids.length : Int)), [])), (56, (.v (.int .i64 u2d), []))], [], []⟩ _ (by kernel_rfl) (.cons (ih_pimpl_wordsOf h464) .nil) ?_
                  obtain ⟨h465, h461⟩ := oguard h461
                  refine Wc.region [{ tk := [6] }, { tk := [9] }, { c := some (List.map GIns.c (u1f ++ u20.1)), tk := [66] }, { tk := [68] }] [] [1, 6, 54, 55, 56] [] [] ⟨[(1, (.v (.slx), [(0, .ex 3 false (List.map cI.i64 u20.2))])), (6, (.v (.sl (List.map GIns.c (u1f ++ u20.1))), [(0, .app 158)])), (54, (.v (.sl (List.map GTerm.c um.gKids)), [])), (55, (.v (.int .i64 (um.gKids.length : Int)), [])), (56, (.v (.int .i64 u2d), []))], [], []⟩ _ (by kernel_rfl) (.cons (app_re2 GIns.c u1f u20.1) (.cons (app_leaf (c := GIns.c) (ys := u20.1) GIns.c_leaf) (.cons (app_obl2 (c := GIns.c) (xs := u1f) (ys := u20.1) GIns.c_len h465) .nil))) ?_
                  refine Wc.region [] [] [1, 6, 54, 55, 56] [] [] ⟨[(1, (.v (.slx), [(0, .ex 3 false (List.map cI.i64 u20.2))])), (6, (.v (.sl (List.map GIns.c (u1f ++ u20.1))), [(0, .app 158)])), (54, (.v (.sl (List.map GTerm.c um.gKids)), [])), (55, (.v (.int .i64 (um.gKids.length : Int)), [])), (56, (.v (.int .i64 (wr.i64 (u2d + 1))), []))], [], []⟩ _ (by kernel_rfl) .nil ?_
                  exact ⟨_, Nat.lt_succ_self _, _, _, _, rfl, h461⟩
                · refine Wc.condF h462 (by kernel_rfl) ?_
                  refine Wc.fix (st' := ⟨[(1, (.v (.slx), [(0, .ex 3 false (List.map cI.i64 u4d))])), (6, (.v (.sl (List.map GIns.c u1f)), [(0, .app 158)]))], [], []⟩) [] [1, 6] [] [] (by kernel_rfl) ?_
                  refine Wc.exit ?_
                  obtain rfl := Option.some.inj h461
                  exact ⟨_, _, rfl, rfl⟩
            · rintro st ⟨u7u, u7v, rfl, rfl⟩
              apply Wc.seq
              refine Wc.region [{ tk := [6] }, { tk := [1] }, { tk := [70] }, { tk := [71] }] [] [4, 5] [] [] ⟨[(4, (.v (.sl (List.map GIns.c u7v)), [(0, .app 158)])), (5, (.v (.slx), [(0, .ex 3 false (List.map cI.i64 u7u))]))], [], []⟩ _ (by kernel_rfl) .nil ?_
              refine Wc.ret ?_
              obtain rfl := Option.some.inj h
              exact ⟨.inl rfl, by kernel_rfl, by kernel_rfl⟩
theorem cimpl_wordsOf {k : Nat} {um : GTerm} {z6 : List Int} {r : (List GIns) × (List Int)} (h : pimpl_wordsOf k um z6 = some r) : FnO Try.prog 127 [.v (.agg (GTerm.q um)) [], .v (.slx) [(0, .ex 3 false (List.map cI.i64 z6))]] (.v (.tup [.sl (List.map GIns.c r.1), .slx]) [(0, .app 158), (1, .ex 3 false (List.map cI.i64 r.2))]) [] := (all_pimpl_wordsOf k) h

def pimpl_WordsOf_L1 (k : Nat) (vs : List Int) : Nat → (List Int) → Int → Option (Out ((List GIns) × (List Int)) (List Int))
  | 0, _, _ => none
  | m + 1, u0r, u1q =>
    if (decide (u1q < (vs.length : Int))) = true then
      (at' vs u1q).bind fun u21 =>
      (pslices_Contains___int_int_ k u0r u21).bind fun ubi =>
      if (!ubi) = true then
        if u0r.length + [u21].length ≤ 1073741824 then
          pimpl_WordsOf_L1 k vs m (u0r ++ [u21]) (wr.i64 (u1q + 1))
        else none
      else
        pimpl_WordsOf_L1 k vs m u0r (wr.i64 (u1q + 1))
    else
      some (.done u0r)
def pimpl_WordsOf (k : Nat) (u0l : GTerm) (vs : List Int) : Option ((List GIns) × (List Int)) :=
  (pimpl_WordsOf_L1 k vs k [] 0).bind fun out1 => match out1 with
  | .ret r => some r
  | .done u4n =>
    (pimpl_TermOk k u0l).bind fun ubj =>
    if (!ubj) = true then
      some ([], u4n)
    else
      (pimpl_wordsOf k u0l u4n).bind fun u5b =>
      some (u5b.1, u5b.2)
theorem cimpl_WordsOf {k : Nat} {u0l : GTerm} {vs : List Int} {r : (List GIns) × (List Int)} (h : pimpl_WordsOf k u0l vs = some r) : FnO Try.prog 82 [.v (.agg (GTerm.q u0l)) [], .v (.sl (List.map cI.i64 vs)) []] (.v (.tup [.sl (List.map GIns.c r.1), .sl (List.map cI.i64 r.2)]) [(0, .app 158)]) [] := by
  refine FnO.of Try.func82 (rfl : Try.f82.body = some _) (Nat.le_of_ble_eq_true (by kernel_rfl)) (Nat.le_of_ble_eq_true (by kernel_rfl)) ?_
  intro w0 X0 Fin pv0 pb
  unfold pimpl_WordsOf at h
  apply Wc.seq
  refine Wc.region [] [] [1, 2] [2] [] ⟨[(1, (.v (.sl (List.map cI.i64 vs)), [])), (2, (.ptr 2 0, []))], [(2, .cells (GTerm.q u0l) [])], []⟩ _ (by kernel_rfl) .nil ?_
  apply Wc.seq
  refine Wc.region [] [] [1, 2, 6] [2] [] ⟨[(1, (.v (.sl (List.map cI.i64 vs)), [])), (2, (.ptr 2 0, [])), (6, (.v (.sl (List.map cI.i64 [])), [(0, .app 3)]))], [(2, .cells (GTerm.q u0l) [])], []⟩ _ (by kernel_rfl) .nil ?_
  apply Wc.seq
  apply Wc.seq
  refine Wc.region [{}, { v := some (.int .i64 (vs.length : Int)) }] [] [2, 6, 9, 10, 11] [2] [] ⟨[(2, (.ptr 2 0, [])), (6, (.v (.sl (List.map cI.i64 [])), [(0, .app 3)])), (9, (.v (.sl (List.map cI.i64 vs)), [])), (10, (.v (.int .i64 (vs.length : Int)), [])), (11, (.v (.int .i64 0), []))], [(2, .cells (GTerm.q u0l) [])], []⟩ _ (by kernel_rfl) (.cons (len_obl cI.i64 vs) .nil) ?_
  obtain ⟨out1, h475, h⟩ := obind h
  refine Wc.lastJ (fun st => ∃ (u4n : List Int), out1 = .done u4n ∧ st = ⟨[(2, (.ptr 2 0, [])), (6, (.v (.slx), [(0, .ex 3 false (List.map cI.i64 u4n))]))], [(2, .cells (GTerm.q u0l) [])], []⟩) ?_ ?_
  · refine Wc.block ?_
    refine Wc.fix (st' := ⟨[(2, (.ptr 2 0, [])), (6, (.v (.slx), [(0, .ex 3 false (List.map cI.i64 []))])), (9, (.v (.sl (List.map cI.i64 vs)), [])), (10, (.v (.int .i64 (vs.length : Int)), [])), (11, (.v (.int .i64 0), []))], [(2, .cells (GTerm.q u0l) [])], []⟩) [.ow (.t 6 0) false] [2, 6, 9, 10, 11] [2] [] (by kernel_rfl) ?_
    refine Wc.loop (fun m st => ∃ (u0r : List Int) (u1q : Int), st = ⟨[(2, (.ptr 2 0, [])), (6, (.v (.slx), [(0, .ex 3 false (List.map cI.i64 u0r))])), (9, (.v (.sl (List.map cI.i64 vs)), [])), (10, (.v (.int .i64 (vs.length : Int)), [])), (11, (.v (.int .i64 u1q), []))], [(2, .cells (GTerm.q u0l) [])], []⟩ ∧ pimpl_WordsOf_L1 k vs m u0r u1q = some out1) ?_ k ⟨_, _, rfl, h475⟩
    rintro m st ⟨u0r, u1q, rfl, h475⟩
    cases m with
    | zero => exact (onone h475).elim
    | succ m =>
      apply Wc.seq
      refine Wc.region [] [] [2, 6, 9, 10, 11, 12] [2] [] ⟨[(2, (.ptr 2 0, [])), (6, (.v (.slx), [(0, .ex 3 false (List.map cI.i64 u0r))])), (9, (.v (.sl (List.map cI.i64 vs)), [])), (10, (.v (.int .i64 (vs.length : Int)), [])), (11, (.v (.int .i64 u1q), [])), (12, (.v (.bool (decide (u1q < (vs.length : Int)))), []))], [(2, .cells (GTerm.q u0l) [])], []⟩ _ (by kernel_rfl) .nil ?_
      apply Wc.seq
      rcases oif h475 with ⟨h476, h475⟩ | ⟨h476, h475⟩
      · refine Wc.condT h476 (by kernel_rfl) ?_
        refine Wc.fix (st' := ⟨[(2, (.ptr 2 0, [])), (6, (.v (.slx), [(0, .ex 3 false (List.map cI.i64 u0r))])), (9, (.v (.sl (List.map cI.i64 vs)), [])), (10, (.v (.int .i64 (vs.length : Int)), [])), (11, (.v (.int .i64 u1q), []))], [(2, .cells (GTerm.q u0l) [])], []⟩) [] [2, 6, 9, 10, 11] [2] [] (by kernel_rfl) ?_
        refine Wc.skip ?_
        apply Wc.seq
        refine Wc.block ?_
        apply Wc.seq
        obtain ⟨u21, h477, h475⟩ := obind h475
        refine Wc.region [{ v := some (.vptr [.int .i64 u21]) }] [] [2, 6, 8, 9, 10, 11] [2] [] ⟨[(2, (.ptr 2 0, [])), (6, (.v (.slx), [(0, .ex 3 false (List.map cI.i64 u0r))])), (8, (.v (.int .i64 u21), [])), (9, (.v (.sl (List.map cI.i64 vs)), [])), (10, (.v (.int .i64 (vs.length : Int)), [])), (11, (.v (.int .i64 u1q), []))], [(2, .cells (GTerm.q u0l) [])], []⟩ _ (by kernel_rfl) (.cons (at_obl (c := cI.i64) rfl cI.i64_len h477) (.cons (len_ok 1 [.int .i64 u21]) .nil)) ?_
        apply Wc.seq
        obtain ⟨ubi, h478, h475⟩ := obind h475
        refine Wc.region [{}, {}, { r := some (.v (.bool ubi) []) }] [] [2, 6, 8, 9, 10, 11, 18] [2] [] ⟨[(2, (.ptr 2 0, [])), (6, (.v (.slx), [(0, .ex 3 false (List.map cI.i64 u0r))])), (8, (.v (.int .i64 u21), [])), (9, (.v (.sl (List.map cI.i64 vs)), [])), (10, (.v (.int .i64 (vs.length : Int)), [])), (11, (.v (.int .i64 u1q), [])), (18, (.v (.bool (!ubi)), []))], [(2, .cells (GTerm.q u0l) [])], []⟩ _ (by kernel_rfl) (.cons (cslices_Contains___int_int_ h478) .nil) ?_
        rcases oif h475 with ⟨h479, h475⟩ | ⟨h479, h475⟩
        · refine Wc.condT h479 (by kernel_rfl) ?_
          obtain ⟨h480, h475⟩ := oguard h475
          refine Wc.region [{ tk := [6] }, {}, { c := some (List.map cI.i64 [u21]) }, { c := some (List.map cI.i64 (u0r ++ [u21])), tk := [19], md := 1 }, { tk := [22] }] [] [2, 6, 9, 10, 11] [2] [] ⟨[(2, (.ptr 2 0, [])), (6, (.v (.slx), [(0, .ex 3 false (List.map cI.i64 (u0r ++ [u21])))])), (9, (.v (.sl (List.map cI.i64 vs)), [])), (10, (.v (.int .i64 (vs.length : Int)), [])), (11, (.v (.int .i64 u1q), []))], [(2, .cells (GTerm.q u0l) [])], []⟩ _ (by kernel_rfl) (.cons (cl_cons (c := cI.i64) (x := u21) rfl (cl_nil cI.i64)) (.cons (app_re2 cI.i64 u0r [u21]) (.cons (app_leaf (c := cI.i64) (ys := [u21]) cI.i64_leaf) (.cons (app_obl2 (c := cI.i64) (xs := u0r) (ys := [u21]) cI.i64_len h480) .nil)))) ?_
          refine Wc.region [] [] [2, 6, 9, 10, 11] [2] [] ⟨[(2, (.ptr 2 0, [])), (6, (.v (.slx), [(0, .ex 3 false (List.map cI.i64 (u0r ++ [u21])))])), (9, (.v (.sl (List.map cI.i64 vs)), [])), (10, (.v (.int .i64 (vs.length : Int)), [])), (11, (.v (.int .i64 (wr.i64 (u1q + 1))), []))], [(2, .cells (GTerm.q u0l) [])], []⟩ _ (by kernel_rfl) .nil ?_
          exact ⟨_, Nat.lt_succ_self _, _, _, rfl, h475⟩
        · refine Wc.condF h479 (by kernel_rfl) ?_
          refine Wc.fix (st' := ⟨[(2, (.ptr 2 0, [])), (6, (.v (.slx), [(0, .ex 3 false (List.map cI.i64 u0r))])), (9, (.v (.sl (List.map cI.i64 vs)), [])), (10, (.v (.int .i64 (vs.length : Int)), [])), (11, (.v (.int .i64 u1q), []))], [(2, .cells (GTerm.q u0l) [])], []⟩) [] [2, 6, 9, 10, 11] [2] [] (by kernel_rfl) ?_
          refine Wc.skip ?_
          refine Wc.region [] [] [2, 6, 9, 10, 11] [2] [] ⟨[(2, (.ptr 2 0, [])), (6, (.v (.slx), [(0, .ex 3 false (List.map cI.i64 u0r))])), (9, (.v (.sl (List.map cI.i64 vs)), [])), (10, (.v (.int .i64 (vs.length : Int)), [])), (11, (.v (.int .i64 (wr.i64 (u1q + 1))), []))], [(2, .cells (GTerm.q u0l) [])], []⟩ _ (by kernel_rfl) .nil ?_
          exact ⟨_, Nat.lt_succ_self _, _, _, rfl, h475⟩
      · refine Wc.condF h476 (by kernel_rfl) ?_
        refine Wc.fix (st' := ⟨[(2, (.ptr 2 0, [])), (6, (.v (.slx), [(0, .ex 3 false (List.map cI.i64 u0r))]))], [(2, .cells (GTerm.q u0l) [])], []⟩) [] [2, 6] [2] [] (by kernel_rfl) ?_
        refine Wc.exit ?_
        obtain rfl := Option.some.inj h475
        exact ⟨_, rfl, rfl⟩
  · rintro st ⟨u4n, rfl, rfl⟩
    apply Wc.seq
    apply Wc.seq
    obtain ⟨ubj, h481, h⟩ := obind h
    refine Wc.region [{}, { r := some (.v (.bool ubj) []) }] [] [2, 6, 26] [2] [] ⟨[(2, (.ptr 2 0, [])), (6, (.v (.slx), [(0, .ex 3 false (List.map cI.i64 u4n))])), (26, (.v (.bool (!ubj)), []))], [(2, .cells (GTerm.q u0l) [])], []⟩ _ (by kernel_rfl) (.cons (cimpl_TermOk h481) .nil) ?_
    rcases oif h with ⟨h482, h⟩ | ⟨h482, h⟩
    · refine Wc.condT h482 (by kernel_rfl) ?_
      apply Wc.seq
      refine Wc.region [{ tk := [6] }, {}, { tk := [27] }] [] [4, 5] [] [] ⟨[(4, (.v (.sl (List.map GIns.c [])), [(0, .app 158)])), (5, (.v (.slx), [(0, .ex 3 false (List.map cI.i64 u4n))]))], [], []⟩ _ (by kernel_rfl) .nil ?_
      refine Wc.fix (st' := ⟨[(4, (.v (.sl (List.map GIns.c [])), [(0, .app 158)])), (5, (.v (.sl (List.map cI.i64 u4n)), []))], [], []⟩) [.sh (.t 5 0)] [4, 5] [] [] (by kernel_rfl) ?_
      refine Wc.ret ?_
      obtain rfl := Option.some.inj h
      exact ⟨.inl rfl, by kernel_rfl, by kernel_rfl⟩
    · refine Wc.condF h482 (by kernel_rfl) ?_
      refine Wc.fix (st' := ⟨[(2, (.ptr 2 0, [])), (6, (.v (.slx), [(0, .ex 3 false (List.map cI.i64 u4n))]))], [(2, .cells (GTerm.q u0l) [])], []⟩) [] [2, 6] [2] [] (by kernel_rfl) ?_
      refine Wc.skip ?_
      apply Wc.seq
      obtain ⟨u5b, h483, h⟩ := obind h
      refine Wc.region [{}, { tk := [6] }, { tk := [29], r := some (.v (.tup [.sl (List.map GIns.c u5b.1), .slx]) [(0, .app 158), (1, .ex 3 false (List.map cI.i64 u5b.2))]) }, { tk := [30] }, { tk := [30] }, { tk := [31] }, { tk := [32] }] [] [4, 5] [] [] ⟨[(4, (.v (.sl (List.map GIns.c u5b.1)), [(0, .app 158)])), (5, (.v (.slx), [(0, .ex 3 false (List.map cI.i64 u5b.2))]))], [], []⟩ _ (by kernel_rfl) (.cons (cimpl_wordsOf h483) .nil) ?_
      refine Wc.fix (st' := ⟨[(4, (.v (.sl (List.map GIns.c u5b.1)), [(0, .app 158)])), (5, (.v (.sl (List.map cI.i64 u5b.2)), []))], [], []⟩) [.sh (.t 5 0)] [4, 5] [] [] (by kernel_rfl) ?_
      refine Wc.ret ?_
      obtain rfl := Option.some.inj h
      exact ⟨.inl rfl, by kernel_rfl, by kernel_rfl⟩

def pimpl_varsUpTo_L1 (k : Nat) (rimpl_varsUpTo : (List GTerm) → Option Int) (vg : List GTerm) : Nat → Int → Int → Option (Out Int Int)
  | 0, _, _ => none
  | m + 1, z9, u18 =>
    if (decide (u18 < (vg.length : Int))) = true then
      (at' vg u18).bind fun zx =>
      if (zx.gKind == 1) = true then
        (rimpl_varsUpTo zx.gKids).bind fun u5u =>
        pimpl_varsUpTo_L1 k rimpl_varsUpTo vg m (if u5u > (if (wr.i64 (zx.gNum + 1)) > z9 then (wr.i64 (zx.gNum + 1)) else z9) then u5u else (if (wr.i64 (zx.gNum + 1)) > z9 then (wr.i64 (zx.gNum + 1)) else z9)) (wr.i64 (u18 + 1))
      else
        (rimpl_varsUpTo zx.gKids).bind fun u5v =>
        pimpl_varsUpTo_L1 k rimpl_varsUpTo vg m (if u5v > z9 then u5v else z9) (wr.i64 (u18 + 1))
    else
      some (.done z9)
mutual
def pimpl_varsUpTo : Nat → (List GTerm) → Option Int
  | 0, _ => none
  | k + 1, vg =>
    (pimpl_varsUpTo_L1 k (pimpl_varsUpTo k) vg k 0 0).bind fun out1 => match out1 with
    | .ret r => some r
    | .done u7w =>
      some u7w
end
theorem all_pimpl_varsUpTo : ∀ k : Nat, (∀ {vg : List GTerm} {r : Int}, pimpl_varsUpTo k vg = some r → FnO Try.prog 83 [.v (.sl (List.map GTerm.c vg)) []] (.v (.int .i64 r) []) []) := by
  intro k
  induction k with
  | zero =>
    · intro vg r h
      exact (onone (by rw [pimpl_varsUpTo] at h; exact h)).elim
  | succ k ih =>
    have ih_pimpl_varsUpTo := @ih
    · intro vg r h
      rw [pimpl_varsUpTo] at h
      refine FnO.of Try.func83 (rfl : Try.f83.body = some _) (Nat.le_of_ble_eq_true (by kernel_rfl)) (Nat.le_of_ble_eq_true (by kernel_rfl)) ?_
      intro w0 X0 Fin pv0 pb
      apply Wc.seq
      refine Wc.region [] [] [0] [] [] ⟨[(0, (.v (.sl (List.map GTerm.c vg)), []))], [], []⟩ _ (by kernel_rfl) .nil ?_
      apply Wc.seq
      refine Wc.region [] [] [0, 3] [] [] ⟨[(0, (.v (.sl (List.map GTerm.c vg)), [])), (3, (.v (.int .i64 0), []))], [], []⟩ _ (by kernel_rfl) .nil ?_
      apply Wc.seq
      apply Wc.seq
      refine Wc.region [{}, { v := some (.int .i64 (vg.length : Int)) }] [] [3, 6, 7, 8] [] [] ⟨[(3, (.v (.int .i64 0), [])), (6, (.v (.sl (List.map GTerm.c vg)), [])), (7, (.v (.int .i64 (vg.length : Int)), [])), (8, (.v (.int .i64 0), []))], [], []⟩ _ (by kernel_rfl) (.cons (len_obl GTerm.c vg) .nil) ?_
      obtain ⟨out1, h484, h⟩ := obind h
      refine Wc.lastJ (fun st => ∃ (u7w : Int), out1 = .done u7w ∧ st = ⟨[(3, (.v (.int .i64 u7w), []))], [], []⟩) ?_ ?_
      · refine Wc.block ?_
        refine Wc.loop (fun m st => ∃ (z9 : Int) (u18 : Int), st = ⟨[(3, (.v (.int .i64 z9), [])), (6, (.v (.sl (List.map GTerm.c vg)), [])), (7, (.v (.int .i64 (vg.length : Int)), [])), (8, (.v (.int .i64 u18), []))], [], []⟩ ∧ pimpl_varsUpTo_L1 k (pimpl_varsUpTo k) vg m z9 u18 = some out1) ?_ k ⟨_, _, rfl, h484⟩
        rintro m st ⟨z9, u18, rfl, h484⟩
        cases m with
        | zero => exact (onone h484).elim
        | succ m =>
          apply Wc.seq
          refine Wc.region [] [] [3, 6, 7, 8, 9] [] [] ⟨[(3, (.v (.int .i64 z9), [])), (6, (.v (.sl (List.map GTerm.c vg)), [])), (7, (.v (.int .i64 (vg.length : Int)), [])), (8, (.v (.int .i64 u18), [])), (9, (.v (.bool (decide (u18 < (vg.length : Int)))), []))], [], []⟩ _ (by kernel_rfl) .nil ?_
          apply Wc.seq
          rcases oif h484 with ⟨h485, h484⟩ | ⟨h485, h484⟩
          · refine Wc.condT h485 (by kernel_rfl) ?_
            refine Wc.fix (st' := ⟨[(3, (.v (.int .i64 z9), [])), (6, (.v (.sl (List.map GTerm.c vg)), [])), (7, (.v (.int .i64 (vg.length : Int)), [])), (8, (.v (.int .i64 u18), []))], [], []⟩) [] [3, 6, 7, 8] [] [] (by kernel_rfl) ?_
            refine Wc.skip ?_
            apply Wc.seq
            refine Wc.block ?_
            apply Wc.seq
            obtain ⟨zx, h486, h484⟩ := obind h484
            refine Wc.region [{ v := some (.vptr (GTerm.q zx)) }] [] [3, 5, 6, 7, 8] [5] [] ⟨[(3, (.v (.int .i64 z9), [])), (5, (.ptr 5 0, [])), (6, (.v (.sl (List.map GTerm.c vg)), [])), (7, (.v (.int .i64 (vg.length : Int)), [])), (8, (.v (.int .i64 u18), []))], [(5, .cells (GTerm.q zx) [])], []⟩ _ (by kernel_rfl) (.cons (at_obl (c := GTerm.c) (GTerm.c_eq zx) GTerm.c_len h486) (.cons (len_ok 4 (GTerm.q zx)) .nil)) ?_
            apply Wc.seq
            apply Wc.seq
            refine Wc.region [] [] [3, 5, 6, 7, 8, 14] [5] [] ⟨[(3, (.v (.int .i64 z9), [])), (5, (.ptr 5 0, [])), (6, (.v (.sl (List.map GTerm.c vg)), [])), (7, (.v (.int .i64 (vg.length : Int)), [])), (8, (.v (.int .i64 u18), [])), (14, (.v (.bool (zx.gKind == 1)), []))], [(5, .cells (GTerm.q zx) [])], []⟩ _ (by kernel_rfl) .nil ?_
            rcases oif h484 with ⟨h487, h484⟩ | ⟨h487, h484⟩
            · refine Wc.condT h487 (by kernel_rfl) ?_
              refine Wc.region [] [] [3, 5, 6, 7, 8] [5] [] ⟨[(3, (.v (.int .i64 (if (wr.i64 (zx.gNum + 1)) > z9 then (wr.i64 (zx.gNum + 1)) else z9)), [])), (5, (.ptr 5 0, [])), (6, (.v (.sl (List.map GTerm.c vg)), [])), (7, (.v (.int .i64 (vg.length : Int)), [])), (8, (.v (.int .i64 u18), []))], [(5, .cells (GTerm.q zx) [])], []⟩ _ (by kernel_rfl) .nil ?_
              obtain ⟨u5u, h488, h484⟩ := obind h484
              refine Wc.region [{}, {}, {}, { r := some (.v (.int .i64 u5u) []) }] [] [3, 6, 7, 8] [] [] ⟨[(3, (.v (.int .i64 (if u5u > (if (wr.i64 (zx.gNum + 1)) > z9 then (wr.i64 (zx.gNum + 1)) else z9) then u5u else (if (wr.i64 (zx.gNum + 1)) > z9 then (wr.i64 (zx.gNum + 1)) else z9))), [])), (6, (.v (.sl (List.map GTerm.c vg)), [])), (7, (.v (.int .i64 (vg.length : Int)), [])), (8, (.v (.int .i64 u18), []))], [], []⟩ _ (by kernel_rfl) (.cons (ih_pimpl_varsUpTo h488) .nil) ?_
              refine Wc.region [] [] [3, 6, 7, 8] [] [] ⟨[(3, (.v (.int .i64 (if u5u > (if (wr.i64 (zx.gNum + 1)) > z9 then (wr.i64 (zx.gNum + 1)) else z9) then u5u else (if (wr.i64 (zx.gNum + 1)) > z9 then (wr.i64 (zx.gNum + 1)) else z9))), [])), (6, (.v (.sl (List.map GTerm.c vg)), [])), (7, (.v (.int .i64 (vg.length : Int)), [])), (8, (.v (.int .i64 (wr.i64 (u18 + 1))), []))], [], []⟩ _ (by kernel_rfl) .nil ?_
              exact ⟨_, Nat.lt_succ_self _, _, _, rfl, h484⟩
            · refine Wc.condF h487 (by kernel_rfl) ?_
              refine Wc.fix (st' := ⟨[(3, (.v (.int .i64 z9), [])), (5, (.ptr 5 0, [])), (6, (.v (.sl (List.map GTerm.c vg)), [])), (7, (.v (.int .i64 (vg.length : Int)), [])), (8, (.v (.int .i64 u18), []))], [(5, .cells (GTerm.q zx) [])], []⟩) [] [3, 5, 6, 7, 8] [5] [] (by kernel_rfl) ?_
              refine Wc.skip ?_
              obtain ⟨u5v, h489, h484⟩ := obind h484
              refine Wc.region [{}, {}, {}, { r := some (.v (.int .i64 u5v) []) }] [] [3, 6, 7, 8] [] [] ⟨[(3, (.v (.int .i64 (if u5v > z9 then u5v else z9)), [])), (6, (.v (.sl (List.map GTerm.c vg)), [])), (7, (.v (.int .i64 (vg.length : Int)), [])), (8, (.v (.int .i64 u18), []))], [], []⟩ _ (by kernel_rfl) (.cons (ih_pimpl_varsUpTo h489) .nil) ?_
              refine Wc.region [] [] [3, 6, 7, 8] [] [] ⟨[(3, (.v (.int .i64 (if u5v > z9 then u5v else z9)), [])), (6, (.v (.sl (List.map GTerm.c vg)), [])), (7, (.v (.int .i64 (vg.length : Int)), [])), (8, (.v (.int .i64 (wr.i64 (u18 + 1))), []))], [], []⟩ _ (by kernel_rfl) .nil ?_
              exact ⟨_, Nat.lt_succ_self _, _, _, rfl, h484⟩
          · refine Wc.condF h485 (by kernel_rfl) ?_
            refine Wc.fix (st' := ⟨[(3, (.v (.int .i64 z9), []))], [], []⟩) [] [3] [] [] (by kernel_rfl) ?_
            refine Wc.exit ?_
            obtain rfl := Option.some.inj h484
            exact ⟨_, rfl, rfl⟩
      · rintro st ⟨u7w, rfl, rfl⟩
        apply Wc.seq
        refine Wc.region [] [] [2] [] [] ⟨[(2, (.v (.int .i64 u7w), []))], [], []⟩ _ (by kernel_rfl) .nil ?_
        refine Wc.ret ?_
        obtain rfl := Option.some.inj h
        exact ⟨.inl rfl, by kernel_rfl, by kernel_rfl⟩
theorem cimpl_varsUpTo {k : Nat} {vg : List GTerm} {r : Int} (h : pimpl_varsUpTo k vg = some r) : FnO Try.prog 83 [.v (.sl (List.map GTerm.c vg)) []] (.v (.int .i64 r) []) [] := (all_pimpl_varsUpTo k) h

def pimpl_CodeOf (k : Nat) (u0s : GClause) : Option (GCode × Bool) :=
  (pimpl_TermOk k u0s.gHead).bind fun ubk =>
  if (!ubk) = true then
    some (GCode.mk [] [] 0, false)
  else
    (pimpl_TermOk k u0s.gBody).bind fun ubl =>
    if (!ubl) = true then
      some (GCode.mk [] [] 0, false)
    else
      (pimpl_WordsOf k u0s.gHead []).bind fun u5c =>
      (pimpl_WordsOf k u0s.gBody u5c.2).bind fun u7x =>
      (pimpl_varsUpTo k [u0s.gHead, u0s.gBody]).bind fun ubm =>
      some (GCode.mk u5c.1 u7x.1 ubm, true)
theorem cimpl_CodeOf {k : Nat} {u0s : GClause} {r : GCode × Bool} (h : pimpl_CodeOf k u0s = some r) : FnO Try.prog 28 [.v (.agg (GClause.q u0s)) []] (.v (.tup [.agg (GCode.q r.1), .bool r.2]) [(0, .app 158), (1, .app 158)]) [] := by
  refine FnO.of Try.func28 (rfl : Try.f28.body = some _) (Nat.le_of_ble_eq_true (by kernel_rfl)) (Nat.le_of_ble_eq_true (by kernel_rfl)) ?_
  intro w0 X0 Fin pv0 pb
  unfold pimpl_CodeOf at h
  apply Wc.seq
  refine Wc.region [] [] [1, 2] [1, 2] [] ⟨[(1, (.ptr 1 0, [])), (2, (.ptr 2 0, []))], [(1, .cells (GClause.q u0s) []), (2, .cells [.sl (List.map GIns.c []), .sl (List.map GIns.c []), .int .i64 0] [(0, .app 158), (1, .app 158)])], []⟩ _ (by kernel_rfl) .nil ?_
  apply Wc.seq
  apply Wc.seq
  obtain ⟨ubk, h497, h⟩ := obind h
  rcases oif h with ⟨h498, h⟩ | ⟨h498, h⟩
  · refine Wc.region [{}, {}, { r := some (.v (.bool ubk) []) }, {}, { re := some (.bool true) }] [] [1, 2, 17] [1, 2] [] ⟨[(1, (.ptr 1 0, [])), (2, (.ptr 2 0, [])), (17, (.v (.bool true), []))], [(1, .cells (GClause.q u0s) []), (2, .cells [.sl (List.map GIns.c []), .sl (List.map GIns.c []), .int .i64 0] [(0, .app 158), (1, .app 158)])], []⟩ _ (by kernel_rfl) (.cons (cimpl_TermOk h497) (.cons (congrArg AV.bool h498) .nil)) ?_
    refine Wc.condT rfl (by kernel_rfl) ?_
    apply Wc.seq
    refine Wc.region [{}, { tk := [18] }] [] [2, 3] [2] [] ⟨[(2, (.ptr 2 0, [])), (3, (.v (.bool false), []))], [(2, .cells [.sl (List.map GIns.c []), .sl (List.map GIns.c []), .int .i64 0] [(0, .app 158), (1, .app 158)])], []⟩ _ (by kernel_rfl) .nil ?_
    refine Wc.ret ?_
    obtain rfl := Option.some.inj h
    exact ⟨.inl rfl, by kernel_rfl, by kernel_rfl⟩
  · obtain ⟨ubl, h499, h⟩ := obind h
    refine Wc.region [{}, {}, { r := some (.v (.bool ubk) []) }, {}, { re := some (.bool false) }, {}, {}, { r := some (.v (.bool ubl) []) }] [] [1, 2, 17] [1, 2] [] ⟨[(1, (.ptr 1 0, [])), (2, (.ptr 2 0, [])), (17, (.v (.bool (!ubl)), []))], [(1, .cells (GClause.q u0s) []), (2, .cells [.sl (List.map GIns.c []), .sl (List.map GIns.c []), .int .i64 0] [(0, .app 158), (1, .app 158)])], []⟩ _ (by kernel_rfl) (.cons (cimpl_TermOk h497) (.cons (congrArg AV.bool h498) (.cons (cimpl_TermOk h499) .nil))) ?_
    rcases oif h with ⟨h500, h⟩ | ⟨h500, h⟩
    · refine Wc.condT h500 (by kernel_rfl) ?_
      apply Wc.seq
      refine Wc.region [{}, { tk := [18] }] [] [2, 3] [2] [] ⟨[(2, (.ptr 2 0, [])), (3, (.v (.bool false), []))], [(2, .cells [.sl (List.map GIns.c []), .sl (List.map GIns.c []), .int .i64 0] [(0, .app 158), (1, .app 158)])], []⟩ _ (by kernel_rfl) .nil ?_
      refine Wc.ret ?_
      obtain rfl := Option.some.inj h
      exact ⟨.inl rfl, by kernel_rfl, by kernel_rfl⟩
    · refine Wc.condF h500 (by kernel_rfl) ?_
      refine Wc.fix (st' := ⟨[(1, (.ptr 1 0, [])), (2, (.ptr 2 0, []))], [(1, .cells (GClause.q u0s) []), (2, .cells [.sl (List.map GIns.c []), .sl (List.map GIns.c []), .int .i64 0] [(0, .app 158), (1, .app 158)])], []⟩) [] [1, 2] [1, 2] [] (by kernel_rfl) ?_
      refine Wc.skip ?_
      apply Wc.seq
      obtain ⟨u5c, h501, h⟩ := obind h
      refine Wc.region [{}, {}, { r := some (.v (.tup [.sl (List.map GIns.c u5c.1), .sl (List.map cI.i64 u5c.2)]) [(0, .app 158)]) }, { tk := [22] }, { tk := [19] }, {}, { tk := [23] }] [] [1, 2, 4, 5] [1, 2] [] ⟨[(1, (.ptr 1 0, [])), (2, (.ptr 2 0, [])), (4, (.v (.sl (List.map GIns.c u5c.1)), [(0, .app 158)])), (5, (.v (.sl (List.map cI.i64 u5c.2)), []))], [(1, .cells (GClause.q u0s) []), (2, .cells [.sl (List.map GIns.c []), .sl (List.map GIns.c []), .int .i64 0] [(0, .app 158), (1, .app 158)])], []⟩ _ (by kernel_rfl) (.cons (cimpl_WordsOf h501) .nil) ?_
      apply Wc.seq
      obtain ⟨u7x, h502, h⟩ := obind h
      refine Wc.region [{}, {}, {}, { r := some (.v (.tup [.sl (List.map GIns.c u7x.1), .sl (List.map cI.i64 u7x.2)]) [(0, .app 158)]) }, { tk := [29] }, { tk := [25] }, {}, { tk := [30] }] [] [1, 2, 4, 6] [1, 2] [] ⟨[(1, (.ptr 1 0, [])), (2, (.ptr 2 0, [])), (4, (.v (.sl (List.map GIns.c u5c.1)), [(0, .app 158)])), (6, (.v (.sl (List.map GIns.c u7x.1)), [(0, .app 158)]))], [(1, .cells (GClause.q u0s) []), (2, .cells [.sl (List.map GIns.c []), .sl (List.map GIns.c []), .int .i64 0] [(0, .app 158), (1, .app 158)])], []⟩ _ (by kernel_rfl) (.cons (cimpl_WordsOf h502) .nil) ?_
      apply Wc.seq
      obtain ⟨ubm, h503, h⟩ := obind h
      refine Wc.region [{ tk := [4] }, { tk := [6] }, {}, {}, {}, {}, { c := some (List.map GTerm.c [u0s.gHead, u0s.gBody]) }, { r := some (.v (.int .i64 ubm) []) }, { tk := [32, 33] }, { tk := [40] }] [] [2, 3] [2] [] ⟨[(2, (.ptr 2 0, [])), (3, (.v (.bool true), []))], [(2, .cells [.sl (List.map GIns.c u5c.1), .sl (List.map GIns.c u7x.1), .int .i64 ubm] [(0, .app 158), (1, .app 158)])], []⟩ _ (by kernel_rfl) (.cons (cl_cons (c := GTerm.c) (x := u0s.gHead) (GTerm.c_eq u0s.gHead) (cl_cons (c := GTerm.c) (x := u0s.gBody) (GTerm.c_eq u0s.gBody) (cl_nil GTerm.c))) (.cons (cimpl_varsUpTo h503) .nil)) ?_
      refine Wc.ret ?_
      obtain rfl := Option.some.inj h
      exact ⟨.inl rfl, by kernel_rfl, by kernel_rfl⟩

def pimpl_copyTerm_1 (k : Nat) (u7y : Int) : Option Int :=
  some u7y
theorem cimpl_copyTerm_1 {k : Nat} {u7y : Int} {r : Int} (h : pimpl_copyTerm_1 k u7y = some r) : FnO Try.prog 154 [.v (.int .i64 u7y) []] (.v (.int .i64 r) []) [] := by
  refine FnO.of Try.func154 (rfl : Try.f154.body = some _) (Nat.le_of_ble_eq_true (by kernel_rfl)) (Nat.le_of_ble_eq_true (by kernel_rfl)) ?_
  intro w0 X0 Fin pv0 pb
  unfold pimpl_copyTerm_1 at h
  apply Wc.seq
  refine Wc.region [] [] [0] [] [] ⟨[(0, (.v (.int .i64 u7y), []))], [], []⟩ _ (by kernel_rfl) .nil ?_
  apply Wc.seq
  refine Wc.region [] [] [2] [] [] ⟨[(2, (.v (.int .i64 u7y), []))], [], []⟩ _ (by kernel_rfl) .nil ?_
  refine Wc.ret ?_
  obtain rfl := Option.some.inj h
  exact ⟨.inl rfl, by kernel_rfl, by kernel_rfl⟩

def pimpl_renamed_on1_pimpl_copyTerm_1_L2 (k : Nat) (rimpl_renamed_on1_pimpl_copyTerm_1 : GTerm → Option GTerm) (ut : GTerm) : Nat → Int → GTerm → Option (Out GTerm GTerm)
  | 0, _, _ => none
  | m + 1, u3c, u05 =>
    if (decide (u3c < (ut.gKids.length : Int))) = true then
      (at' ut.gKids u3c).bind fun u7z =>
      (rimpl_renamed_on1_pimpl_copyTerm_1 u7z).bind fun u3d =>
      if u05.gKids.length + [u3d].length ≤ 1073741824 then
        pimpl_renamed_on1_pimpl_copyTerm_1_L2 k rimpl_renamed_on1_pimpl_copyTerm_1 ut m (wr.i64 (u3c + 1)) (GTerm.mk u05.gKind u05.gName u05.gNum (u05.gKids ++ [u3d]))
      else none
    else
      some (.done u05)
def pimpl_renamed_on1_pimpl_copyTerm_1_J1 (k : Nat) (rimpl_renamed_on1_pimpl_copyTerm_1 : GTerm → Option GTerm) (ut : GTerm) (u80 : GTerm) : Option GTerm :=
  (pimpl_renamed_on1_pimpl_copyTerm_1_L2 k rimpl_renamed_on1_pimpl_copyTerm_1 ut k 0 u80).bind fun out2 => match out2 with
  | .ret r => some r
  | .done u81 =>
    some u81
mutual
def pimpl_renamed_on1_pimpl_copyTerm_1 : Nat → GTerm → Option GTerm
  | 0, _ => none
  | k + 1, ut =>
    if (ut.gKind == 1) = true then
      (pimpl_copyTerm_1 k ut.gNum).bind fun ubn =>
      pimpl_renamed_on1_pimpl_copyTerm_1_J1 k (pimpl_renamed_on1_pimpl_copyTerm_1 k) ut (GTerm.mk ut.gKind ut.gName ubn [])
    else
      pimpl_renamed_on1_pimpl_copyTerm_1_J1 k (pimpl_renamed_on1_pimpl_copyTerm_1 k) ut (GTerm.mk ut.gKind ut.gName ut.gNum [])
end
set_option maxHeartbeats 4000000 in
theorem all_pimpl_renamed_on1_pimpl_copyTerm_1 : ∀ k : Nat, (∀ {ut : GTerm} {r : GTerm}, pimpl_renamed_on1_pimpl_copyTerm_1 k ut = some r → FnO Try.prog 153 [.v (.agg (GTerm.q ut)) [], .v (.func 154 []) []] (.v (.agg (GTerm.q r)) [(3, .app 42)]) []) := by
  intro k
  induction k with
  | zero =>
    · intro ut r h
      exact (onone (by rw [pimpl_renamed_on1_pimpl_copyTerm_1] at h; exact h)).elim
  | succ k ih =>
    have ih_pimpl_renamed_on1_pimpl_copyTerm_1 := @ih
    · intro ut r h
      rw [pimpl_renamed_on1_pimpl_copyTerm_1] at h
      refine FnO.of Try.func153 (rfl : Try.f153.body = some _) (Nat.le_of_ble_eq_true (by kernel_rfl)) (Nat.le_of_ble_eq_true (by kernel_rfl)) ?_
      intro w0 X0 Fin pv0 pb
      apply Wc.seq
      refine Wc.region [] [] [1, 2, 4] [2, 4] [] ⟨[(1, (.v (.func 154 []), [])), (2, (.ptr 2 0, [])), (4, (.ptr 4 0, []))], [(2, .cells (GTerm.q ut) []), (4, .cells [.int .i64 0, .str (bs []), .int .i64 0, .sl (List.map GTerm.c [])] [(3, .app 42)])], []⟩ _ (by kernel_rfl) .nil ?_
      apply Wc.seq
      refine Wc.region [] [] [1, 2, 4, 5] [2, 4, 5] [] ⟨[(1, (.v (.func 154 []), [])), (2, (.ptr 2 0, [])), (4, (.ptr 4 0, [])), (5, (.ptr 5 0, []))], [(2, .cells (GTerm.q ut) []), (4, .cells [.int .i64 0, .str (bs []), .int .i64 0, .sl (List.map GTerm.c [])] [(3, .app 42)]), (5, .cells (GTerm.q ut) [])], []⟩ _ (by kernel_rfl) .nil ?_
      apply Wc.seq
      refine Wc.region [] [] [1, 2, 4, 5] [2, 4, 5] [] ⟨[(1, (.v (.func 154 []), [])), (2, (.ptr 2 0, [])), (4, (.ptr 4 0, [])), (5, (.ptr 5 0, []))], [(2, .cells (GTerm.q ut) []), (4, .cells [.int .i64 0, .str (bs []), .int .i64 0, .sl (List.map GTerm.c [])] [(3, .app 42)]), (5, .cells [.int .i64 ut.gKind, .str ut.gName, .int .i64 ut.gNum, .sl (List.map GTerm.c [])] [(3, .app 42)])], []⟩ _ (by kernel_rfl) .nil ?_
      refine Wc.seqJ (fun st => ∃ (u80 : GTerm), st = ⟨[(1, (.v (.func 154 []), [])), (2, (.ptr 2 0, [])), (4, (.ptr 4 0, [])), (5, (.ptr 5 0, []))], [(2, .cells (GTerm.q ut) []), (4, .cells [.int .i64 0, .str (bs []), .int .i64 0, .sl (List.map GTerm.c [])] [(3, .app 42)]), (5, .cells (GTerm.q u80) [(3, .app 42)])], []⟩ ∧ pimpl_renamed_on1_pimpl_copyTerm_1_J1 k (pimpl_renamed_on1_pimpl_copyTerm_1 k) ut u80 = some r) ?_ ?_
      · apply Wc.seq
        refine Wc.region [] [] [1, 2, 4, 5, 12] [2, 4, 5] [] ⟨[(1, (.v (.func 154 []), [])), (2, (.ptr 2 0, [])), (4, (.ptr 4 0, [])), (5, (.ptr 5 0, [])), (12, (.v (.bool (ut.gKind == 1)), []))], [(2, .cells (GTerm.q ut) []), (4, .cells [.int .i64 0, .str (bs []), .int .i64 0, .sl (List.map GTerm.c [])] [(3, .app 42)]), (5, .cells [.int .i64 ut.gKind, .str ut.gName, .int .i64 ut.gNum, .sl (List.map GTerm.c [])] [(3, .app 42)])], []⟩ _ (by kernel_rfl) .nil ?_
        rcases oif h with ⟨h516, h⟩ | ⟨h516, h⟩
        · refine Wc.condT h516 (by kernel_rfl) ?_
          obtain ⟨ubn, h517, h⟩ := obind h
          refine Wc.region [{}, {}, {}, { r := some (.v (.int .i64 ubn) []) }] [] [1, 2, 4, 5] [2, 4, 5] [] ⟨[(1, (.v (.func 154 []), [])), (2, (.ptr 2 0, [])), (4, (.ptr 4 0, [])), (5, (.ptr 5 0, []))], [(2, .cells (GTerm.q ut) []), (4, .cells [.int .i64 0, .str (bs []), .int .i64 0, .sl (List.map GTerm.c [])] [(3, .app 42)]), (5, .cells [.int .i64 ut.gKind, .str ut.gName, .int .i64 ubn, .sl (List.map GTerm.c [])] [(3, .app 42)])], []⟩ _ (by kernel_rfl) (.cons (cimpl_copyTerm_1 h517) .nil) ?_
          exact ⟨_, rfl, h⟩
        · refine Wc.condF h516 (by kernel_rfl) ?_
          refine Wc.fix (st' := ⟨[(1, (.v (.func 154 []), [])), (2, (.ptr 2 0, [])), (4, (.ptr 4 0, [])), (5, (.ptr 5 0, []))], [(2, .cells (GTerm.q ut) []), (4, .cells [.int .i64 0, .str (bs []), .int .i64 0, .sl (List.map GTerm.c [])] [(3, .app 42)]), (5, .cells [.int .i64 ut.gKind, .str ut.gName, .int .i64 ut.gNum, .sl (List.map GTerm.c [])] [(3, .app 42)])], []⟩) [] [1, 2, 4, 5] [2, 4, 5] [] (by kernel_rfl) ?_
          refine Wc.skip ?_
          exact ⟨_, rfl, h⟩
      · rintro st ⟨u80, rfl, h⟩
        apply Wc.seq
        apply Wc.seq
        refine Wc.region [{}, {}, { v := some (.int .i64 (ut.gKids.length : Int)) }] [] [1, 4, 5, 19, 20, 21] [4, 5] [] ⟨[(1, (.v (.func 154 []), [])), (4, (.ptr 4 0, [])), (5, (.ptr 5 0, [])), (19, (.v (.sl (List.map GTerm.c ut.gKids)), [])), (20, (.v (.int .i64 (ut.gKids.length : Int)), [])), (21, (.v (.int .i64 0), []))], [(4, .cells [.int .i64 0, .str (bs []), .int .i64 0, .sl (List.map GTerm.c [])] [(3, .app 42)]), (5, .cells (GTerm.q u80) [(3, .app 42)])], []⟩ _ (by kernel_rfl) (.cons (len_obl GTerm.c ut.gKids) .nil) ?_
        obtain ⟨out2, h511, h⟩ := obind h
        refine Wc.lastJ (fun st => ∃ (u81 : GTerm), out2 = .done u81 ∧ st = ⟨[(4, (.ptr 4 0, [])), (5, (.ptr 5 0, []))], [(4, .cells [.int .i64 0, .str (bs []), .int .i64 0, .sl (List.map GTerm.c [])] [(3, .app 42)]), (5, .cells (GTerm.q u81) [(3, .app 42)])], []⟩) ?_ ?_
        · refine Wc.block ?_
          refine Wc.loop (fun m st => ∃ (u3c : Int) (u05 : GTerm), st = ⟨[(1, (.v (.func 154 []), [])), (4, (.ptr 4 0, [])), (5, (.ptr 5 0, [])), (19, (.v (.sl (List.map GTerm.c ut.gKids)), [])), (20, (.v (.int .i64 (ut.gKids.length : Int)), [])), (21, (.v (.int .i64 u3c), []))], [(4, .cells [.int .i64 0, .str (bs []), .int .i64 0, .sl (List.map GTerm.c [])] [(3, .app 42)]), (5, .cells (GTerm.q u05) [(3, .app 42)])], []⟩ ∧ pimpl_renamed_on1_pimpl_copyTerm_1_L2 k (pimpl_renamed_on1_pimpl_copyTerm_1 k) ut m u3c u05 = some out2) ?_ k ⟨_, _, rfl, h511⟩
          rintro m st ⟨u3c, u05, rfl, h511⟩
          cases m with
          | zero => exact (onone h511).elim
          | succ m =>
            apply Wc.seq
            refine Wc.region [] [] [1, 4, 5, 19, 20, 21, 22] [4, 5] [] ⟨[(1, (.v (.func 154 []), [])), (4, (.ptr 4 0, [])), (5, (.ptr 5 0, [])), (19, (.v (.sl (List.map GTerm.c ut.gKids)), [])), (20, (.v (.int .i64 (ut.gKids.length : Int)), [])), (21, (.v (.int .i64 u3c), [])), (22, (.v (.bool (decide (u3c < (ut.gKids.length : Int)))), []))], [(4, .cells [.int .i64 0, .str (bs []), .int .i64 0, .sl (List.map GTerm.c [])] [(3, .app 42)]), (5, .cells (GTerm.q u05) [(3, .app 42)])], []⟩ _ (by kernel_rfl) .nil ?_
            apply Wc.seq
            rcases oif h511 with ⟨h512, h511⟩ | ⟨h512, h511⟩
            · refine Wc.condT h512 (by kernel_rfl) ?_
              refine Wc.fix (st' := ⟨[(1, (.v (.func 154 []), [])), (4, (.ptr 4 0, [])), (5, (.ptr 5 0, [])), (19, (.v (.sl (List.map GTerm.c ut.gKids)), [])), (20, (.v (.int .i64 (ut.gKids.length : Int)), [])), (21, (.v (.int .i64 u3c), []))], [(4, .cells [.int .i64 0, .str (bs []), .int .i64 0, .sl (List.map GTerm.c [])] [(3, .app 42)]), (5, .cells (GTerm.q u05) [(3, .app 42)])], []⟩) [] [1, 4, 5, 19, 20, 21] [4, 5] [] (by kernel_rfl) ?_
              refine Wc.skip ?_
              apply Wc.seq
              refine Wc.block ?_
              apply Wc.seq
              obtain ⟨u7z, h513, h511⟩ := obind h511
              refine Wc.region [{ v := some (.vptr (GTerm.q u7z)) }] [] [1, 4, 5, 7, 19, 20, 21] [4, 5, 7] [] ⟨[(1, (.v (.func 154 []), [])), (4, (.ptr 4 0, [])), (5, (.ptr 5 0, [])), (7, (.ptr 7 0, [])), (19, (.v (.sl (List.map GTerm.c ut.gKids)), [])), (20, (.v (.int .i64 (ut.gKids.length : Int)), [])), (21, (.v (.int .i64 u3c), []))], [(4, .cells [.int .i64 0, .str (bs []), .int .i64 0, .sl (List.map GTerm.c [])] [(3, .app 42)]), (5, .cells (GTerm.q u05) [(3, .app 42)]), (7, .cells (GTerm.q u7z) [])], []⟩ _ (by kernel_rfl) (.cons (at_obl (c := GTerm.c) (GTerm.c_eq u7z) GTerm.c_len h513) (.cons (len_ok 4 (GTerm.q u7z)) .nil)) ?_
              obtain ⟨u3d, h514, h511⟩ := obind h511
              obtain ⟨h515, h511⟩ := oguard h511
              refine Wc.draw hmix [{}, { md := 1 }, {}, {}, { r := some (.v (.agg (GTerm.q u3d)) [(3, .app 42)]) }, { c := some (List.map GTerm.c [u3d]) }, { c := some (List.map GTerm.c (u05.gKids ++ [u3d])), tk := [26] }, {}, { tk := [31] }] [] [1, 4, 5, 19, 20, 21] [4, 5] [] ⟨[(1, (.v (.func 154 []), [])), (4, (.ptr 4 0, [])), (5, (.ptr 5 0, [])), (19, (.v (.sl (List.map GTerm.c ut.gKids)), [])), (20, (.v (.int .i64 (ut.gKids.length : Int)), [])), (21, (.v (.int .i64 u3c), []))], [(4, .cells [.int .i64 0, .str (bs []), .int .i64 0, .sl (List.map GTerm.c [])] [(3, .app 42)]), (5, .cells [.int .i64 u05.gKind, .str u05.gName, .int .i64 u05.gNum, .sl (List.map GTerm.c (u05.gKids ++ [u3d]))] [(3, .app 42)])], []⟩ _ (by kernel_rfl) (fun X => by kernel_rfl) (.cons (ih_pimpl_renamed_on1_pimpl_copyTerm_1 h514) (.cons (cl_cons (c := GTerm.c) (x := u3d) (GTerm.c_eq u3d) (cl_nil GTerm.c)) (.cons (app_re2 GTerm.c u05.gKids [u3d]) (.cons (app_leaf (c := GTerm.c) (ys := [u3d]) GTerm.c_leaf) (.cons (app_obl2 (c := GTerm.c) (xs := u05.gKids) (ys := [u3d]) GTerm.c_len h515) .nil))))) ?_
              refine Wc.region [] [] [1, 4, 5, 19, 20, 21] [4, 5] [] ⟨[(1, (.v (.func 154 []), [])), (4, (.ptr 4 0, [])), (5, (.ptr 5 0, [])), (19, (.v (.sl (List.map GTerm.c ut.gKids)), [])), (20, (.v (.int .i64 (ut.gKids.length : Int)), [])), (21, (.v (.int .i64 (wr.i64 (u3c + 1))), []))], [(4, .cells [.int .i64 0, .str (bs []), .int .i64 0, .sl (List.map GTerm.c [])] [(3, .app 42)]), (5, .cells [.int .i64 u05.gKind, .str u05.gName, .int .i64 u05.gNum, .sl (List.map GTerm.c (u05.gKids ++ [u3d]))] [(3, .app 42)])], []⟩ _ (by kernel_rfl) .nil ?_
              exact ⟨_, Nat.lt_succ_self _, _, _, rfl, h511⟩
            · refine Wc.condF h512 (by kernel_rfl) ?_
              refine Wc.fix (st' := ⟨[(4, (.ptr 4 0, [])), (5, (.ptr 5 0, []))], [(4, .cells [.int .i64 0, .str (bs []), .int .i64 0, .sl (List.map GTerm.c [])] [(3, .app 42)]), (5, .cells (GTerm.q u05) [(3, .app 42)])], []⟩) [] [4, 5] [4, 5] [] (by kernel_rfl) ?_
              refine Wc.exit ?_
              obtain rfl := Option.some.inj h511
              exact ⟨_, rfl, rfl⟩
        · rintro st ⟨u81, rfl, rfl⟩
          apply Wc.seq
          refine Wc.region [{ md := 1 }, { tk := [34] }] [] [4] [4] [] ⟨[(4, (.ptr 4 0, []))], [(4, .cells (GTerm.q u81) [(3, .app 42)])], []⟩ _ (by kernel_rfl) .nil ?_
          refine Wc.ret ?_
          obtain rfl := Option.some.inj h
          exact ⟨.inl rfl, by kernel_rfl, by kernel_rfl⟩
theorem cimpl_renamed_on1_pimpl_copyTerm_1 {k : Nat} {ut : GTerm} {r : GTerm} (h : pimpl_renamed_on1_pimpl_copyTerm_1 k ut = some r) : FnO Try.prog 153 [.v (.agg (GTerm.q ut)) [], .v (.func 154 []) []] (.v (.agg (GTerm.q r)) [(3, .app 42)]) [] := (all_pimpl_renamed_on1_pimpl_copyTerm_1 k) h

def pimpl_copyTerm (k : Nat) (ua3 : GTerm) : Option GTerm :=
  (pimpl_renamed_on1_pimpl_copyTerm_1 k ua3).bind fun ubo =>
  some ubo
theorem cimpl_copyTerm {k : Nat} {ua3 : GTerm} {r : GTerm} (h : pimpl_copyTerm k ua3 = some r) : FnO Try.prog 136 [.v (.agg (GTerm.q ua3)) []] (.v (.agg (GTerm.q r)) [(3, .app 42)]) [] := by
  refine FnO.of Try.func136 (rfl : Try.f136.body = some _) (Nat.le_of_ble_eq_true (by kernel_rfl)) (Nat.le_of_ble_eq_true (by kernel_rfl)) ?_
  intro w0 X0 Fin pv0 pb
  unfold pimpl_copyTerm at h
  apply Wc.seq
  refine Wc.region [] [] [1, 2] [1, 2] [] ⟨[(1, (.ptr 1 0, [])), (2, (.ptr 2 0, []))], [(1, .cells (GTerm.q ua3) []), (2, .cells [.int .i64 0, .str (bs []), .int .i64 0, .sl (List.map GTerm.c [])] [(3, .app 42)])], []⟩ _ (by kernel_rfl) .nil ?_
  apply Wc.seq
  obtain ⟨ubo, h505, h⟩ := obind h
  refine Wc.region [{}, { r := some (.v (.agg (GTerm.q ubo)) [(3, .app 42)]) }, { tk := [4] }] [] [2] [2] [] ⟨[(2, (.ptr 2 0, []))], [(2, .cells (GTerm.q ubo) [(3, .app 42)])], []⟩ _ (by kernel_rfl) (.cons (cimpl_renamed_on1_pimpl_copyTerm_1 h505) .nil) ?_
  refine Wc.ret ?_
  obtain rfl := Option.some.inj h
  exact ⟨.inl rfl, by kernel_rfl, by kernel_rfl⟩

def pimpl_copyClause (k : Nat) (u5w : GClause) : Option GClause :=
  (pimpl_copyTerm k u5w.gHead).bind fun u6f =>
  (pimpl_copyTerm k u5w.gBody).bind fun ut =>
  some (GClause.mk u6f ut u5w.gFile)
theorem cimpl_copyClause {k : Nat} {u5w : GClause} {r : GClause} (h : pimpl_copyClause k u5w = some r) : FnO Try.prog 98 [.v (.agg (GClause.q u5w)) []] (.v (.agg (GClause.q r)) [(3, .app 42), (7, .app 42)]) [] := by
  refine FnO.of Try.func98 (rfl : Try.f98.body = some _) (Nat.le_of_ble_eq_true (by kernel_rfl)) (Nat.le_of_ble_eq_true (by kernel_rfl)) ?_
  intro w0 X0 Fin pv0 pb
  unfold pimpl_copyClause at h
  apply Wc.seq
  refine Wc.region [] [] [1, 2] [1, 2] [] ⟨[(1, (.ptr 1 0, [])), (2, (.ptr 2 0, []))], [(1, .cells (GClause.q u5w) []), (2, .cells [.int .i64 0, .str (bs []), .int .i64 0, .sl (List.map GTerm.c []), .int .i64 0, .str (bs []), .int .i64 0, .sl (List.map GTerm.c []), .str (bs [])] [(3, .app 42), (7, .app 42)])], []⟩ _ (by kernel_rfl) .nil ?_
  apply Wc.seq
  obtain ⟨u6f, h508, h⟩ := obind h
  obtain ⟨ut, h509, h⟩ := obind h
  refine Wc.draw hmix [{}, {}, { r := some (.v (.agg (GTerm.q u6f)) [(3, .app 42)]) }, {}, {}, { r := some (.v (.agg (GTerm.q ut)) [(3, .app 42)]) }, {}, {}, { tk := [5, 8] }, { tk := [11] }] [] [2] [2] [] ⟨[(2, (.ptr 2 0, []))], [(2, .cells [.int .i64 u6f.gKind, .str u6f.gName, .int .i64 u6f.gNum, .sl (List.map GTerm.c u6f.gKids), .int .i64 ut.gKind, .str ut.gName, .int .i64 ut.gNum, .sl (List.map GTerm.c ut.gKids), .str u5w.gFile] [(3, .app 42), (7, .app 42)])], []⟩ _ (by kernel_rfl) (fun X => by kernel_rfl) (.cons (cimpl_copyTerm h508) (.cons (cimpl_copyTerm h509) .nil)) ?_
  refine Wc.ret ?_
  obtain rfl := Option.some.inj h
  exact ⟨.inl rfl, by kernel_rfl, by kernel_rfl⟩

def pimpl_StoreOf_L1 (k : Nat) (vn : GDb) : Nat → Int → GStore → Option (Out GStore GStore)
  | 0, _, _ => none
  | m + 1, u2w, u0b =>
    if (decide (u2w < (vn.gClauses.length : Int))) = true then
      (at' vn.gClauses u2w).bind fun u5x =>
      (pimpl_CodeOf k u5x).bind fun vt =>
      (pimpl_copyClause k u5x).bind fun u3e =>
      if u0b.gList.length + [GKept.mk u3e (GCode.mk vt.1.gHead vt.1.gBody vt.1.gVars) 0 0].length ≤ 1073741824 then
        pimpl_StoreOf_L1 k vn m (wr.i64 (u2w + 1)) (GStore.mk (u0b.gList ++ [GKept.mk u3e (GCode.mk vt.1.gHead vt.1.gBody vt.1.gVars) 0 0]) u0b.gOpen u0b.gNow)
      else none
    else
      some (.done u0b)
def pimpl_StoreOf (k : Nat) (vn : GDb) : Option GStore :=
  if ([] : List ByteArray).length + vn.gOpen.length ≤ 1073741824 then
    (pimpl_StoreOf_L1 k vn k 0 (GStore.mk [] vn.gOpen 1)).bind fun out1 => match out1 with
    | .ret r => some r
    | .done u82 =>
      some u82
  else none
theorem cimpl_StoreOf {k : Nat} {vn : GDb} {r : GStore} (h : pimpl_StoreOf k vn = some r) : FnO Try.prog 46 [.v (.agg (GDb.q vn)) []] (.v (.agg (GStore.q r)) [(0, .app 128), (1, .app 9)]) [] := by
  refine FnO.of Try.func46 (rfl : Try.f46.body = some _) (Nat.le_of_ble_eq_true (by kernel_rfl)) (Nat.le_of_ble_eq_true (by kernel_rfl)) ?_
  intro w0 X0 Fin pv0 pb
  unfold pimpl_StoreOf at h
  apply Wc.seq
  refine Wc.region [] [] [1, 2] [1, 2] [] ⟨[(1, (.ptr 1 0, [])), (2, (.ptr 2 0, []))], [(1, .cells (GDb.q vn) []), (2, .cells [.sl (List.map GKept.c []), .sl (List.map cS []), .int .i64 0] [(0, .app 128), (1, .app 9)])], []⟩ _ (by kernel_rfl) .nil ?_
  apply Wc.seq
  obtain ⟨h517, h⟩ := oguard h
  refine Wc.region [{}, {}, { c := some (List.map cS vn.gOpen) }, { tk := [10] }, {}, { tk := [11] }] [] [1, 2, 3] [1, 2, 3] [] ⟨[(1, (.ptr 1 0, [])), (2, (.ptr 2 0, [])), (3, (.ptr 3 0, []))], [(1, .cells (GDb.q vn) []), (2, .cells [.sl (List.map GKept.c []), .sl (List.map cS []), .int .i64 0] [(0, .app 128), (1, .app 9)]), (3, .cells [.sl (List.map GKept.c []), .sl (List.map cS vn.gOpen), .int .i64 1] [(0, .app 128), (1, .app 9)])], []⟩ _ (by kernel_rfl) (.cons (app_re0 cS vn.gOpen) (.cons (app_leaf (c := cS) (ys := vn.gOpen) cS_leaf) (.cons (app_obl2 (c := cS) (xs := []) (ys := vn.gOpen) cS_len h517) .nil))) ?_
  apply Wc.seq
  apply Wc.seq
  refine Wc.region [{}, {}, { v := some (.int .i64 (vn.gClauses.length : Int)) }] [] [2, 3, 13, 14, 15] [2, 3] [] ⟨[(2, (.ptr 2 0, [])), (3, (.ptr 3 0, [])), (13, (.v (.sl (List.map GClause.c vn.gClauses)), [])), (14, (.v (.int .i64 (vn.gClauses.length : Int)), [])), (15, (.v (.int .i64 0), []))], [(2, .cells [.sl (List.map GKept.c []), .sl (List.map cS []), .int .i64 0] [(0, .app 128), (1, .app 9)]), (3, .cells [.sl (List.map GKept.c []), .sl (List.map cS vn.gOpen), .int .i64 1] [(0, .app 128), (1, .app 9)])], []⟩ _ (by kernel_rfl) (.cons (len_obl GClause.c vn.gClauses) .nil) ?_
  obtain ⟨out1, h518, h⟩ := obind h
  refine Wc.lastJ (fun st => ∃ (u82 : GStore), out1 = .done u82 ∧ st = ⟨[(2, (.ptr 2 0, [])), (3, (.ptr 3 0, []))], [(2, .cells [.sl (List.map GKept.c []), .sl (List.map cS []), .int .i64 0] [(0, .app 128), (1, .app 9)]), (3, .cells (GStore.q u82) [(0, .app 128), (1, .app 9)])], []⟩) ?_ ?_
  · refine Wc.block ?_
    refine Wc.loop (fun m st => ∃ (u2w : Int) (u0b : GStore), st = ⟨[(2, (.ptr 2 0, [])), (3, (.ptr 3 0, [])), (13, (.v (.sl (List.map GClause.c vn.gClauses)), [])), (14, (.v (.int .i64 (vn.gClauses.length : Int)), [])), (15, (.v (.int .i64 u2w), []))], [(2, .cells [.sl (List.map GKept.c []), .sl (List.map cS []), .int .i64 0] [(0, .app 128), (1, .app 9)]), (3, .cells (GStore.q u0b) [(0, .app 128), (1, .app 9)])], []⟩ ∧ pimpl_StoreOf_L1 k vn m u2w u0b = some out1) ?_ k ⟨_, _, rfl, h518⟩
    rintro m st ⟨u2w, u0b, rfl, h518⟩
    cases m with
    | zero => exact (onone h518).elim
    | succ m =>
      apply Wc.seq
      refine Wc.region [] [] [2, 3, 13, 14, 15, 16] [2, 3] [] ⟨[(2, (.ptr 2 0, [])), (3, (.ptr 3 0, [])), (13, (.v (.sl (List.map GClause.c vn.gClauses)), [])), (14, (.v (.int .i64 (vn.gClauses.length : Int)), [])), (15, (.v (.int .i64 u2w), [])), (16, (.v (.bool (decide (u2w < (vn.gClauses.length : Int)))), []))], [(2, .cells [.sl (List.map GKept.c []), .sl (List.map cS []), .int .i64 0] [(0, .app 128), (1, .app 9)]), (3, .cells (GStore.q u0b) [(0, .app 128), (1, .app 9)])], []⟩ _ (by kernel_rfl) .nil ?_
      apply Wc.seq
      rcases oif h518 with ⟨h519, h518⟩ | ⟨h519, h518⟩
      · refine Wc.condT h519 (by kernel_rfl) ?_
        refine Wc.fix (st' := ⟨[(2, (.ptr 2 0, [])), (3, (.ptr 3 0, [])), (13, (.v (.sl (List.map GClause.c vn.gClauses)), [])), (14, (.v (.int .i64 (vn.gClauses.length : Int)), [])), (15, (.v (.int .i64 u2w), []))], [(2, .cells [.sl (List.map GKept.c []), .sl (List.map cS []), .int .i64 0] [(0, .app 128), (1, .app 9)]), (3, .cells (GStore.q u0b) [(0, .app 128), (1, .app 9)])], []⟩) [] [2, 3, 13, 14, 15] [2, 3] [] (by kernel_rfl) ?_
        refine Wc.skip ?_
        apply Wc.seq
        refine Wc.block ?_
        apply Wc.seq
        obtain ⟨u5x, h520, h518⟩ := obind h518
        refine Wc.region [{ v := some (.vptr (GClause.q u5x)) }] [] [2, 3, 5, 13, 14, 15] [2, 3, 5] [] ⟨[(2, (.ptr 2 0, [])), (3, (.ptr 3 0, [])), (5, (.ptr 5 0, [])), (13, (.v (.sl (List.map GClause.c vn.gClauses)), [])), (14, (.v (.int .i64 (vn.gClauses.length : Int)), [])), (15, (.v (.int .i64 u2w), []))], [(2, .cells [.sl (List.map GKept.c []), .sl (List.map cS []), .int .i64 0] [(0, .app 128), (1, .app 9)]), (3, .cells (GStore.q u0b) [(0, .app 128), (1, .app 9)]), (5, .cells (GClause.q u5x) [])], []⟩ _ (by kernel_rfl) (.cons (at_obl (c := GClause.c) (GClause.c_eq u5x) GClause.c_len h520) (.cons (len_ok 9 (GClause.q u5x)) .nil)) ?_
        apply Wc.seq
        obtain ⟨vt, h521, h518⟩ := obind h518
        refine Wc.region [{}, { r := some (.v (.tup [.agg (GCode.q vt.1), .bool vt.2]) [(0, .app 158), (1, .app 158)]) }, { tk := [21] }, { tk := [19] }, {}, {}, { tk := [22] }] [] [2, 3, 5, 6, 13, 14, 15] [2, 3, 5, 6] [] ⟨[(2, (.ptr 2 0, [])), (3, (.ptr 3 0, [])), (5, (.ptr 5 0, [])), (6, (.ptr 6 0, [])), (13, (.v (.sl (List.map GClause.c vn.gClauses)), [])), (14, (.v (.int .i64 (vn.gClauses.length : Int)), [])), (15, (.v (.int .i64 u2w), []))], [(2, .cells [.sl (List.map GKept.c []), .sl (List.map cS []), .int .i64 0] [(0, .app 128), (1, .app 9)]), (3, .cells (GStore.q u0b) [(0, .app 128), (1, .app 9)]), (5, .cells (GClause.q u5x) []), (6, .cells (GCode.q vt.1) [(0, .app 158), (1, .app 158)])], []⟩ _ (by kernel_rfl) (.cons (cimpl_CodeOf h521) .nil) ?_
        obtain ⟨u3e, h522, h518⟩ := obind h518
        obtain ⟨h523, h518⟩ := oguard h518
        refine Wc.draw hmix [{}, { md := 1 }, {}, { r := some (.v (.agg (GClause.q u3e)) [(3, .app 42), (7, .app 42)]) }, {}, { tk := [27] }, { c := some (List.map GKept.c [GKept.mk u3e (GCode.mk vt.1.gHead vt.1.gBody vt.1.gVars) 0 0]) }, { c := some (List.map GKept.c (u0b.gList ++ [GKept.mk u3e (GCode.mk vt.1.gHead vt.1.gBody vt.1.gVars) 0 0])), tk := [25] }, {}, { tk := [31] }] [.so 3] [2, 3, 13, 14, 15] [2, 3] [] ⟨[(2, (.ptr 2 0, [])), (3, (.ptr 3 0, [])), (13, (.v (.sl (List.map GClause.c vn.gClauses)), [])), (14, (.v (.int .i64 (vn.gClauses.length : Int)), [])), (15, (.v (.int .i64 u2w), []))], [(2, .cells [.sl (List.map GKept.c []), .sl (List.map cS []), .int .i64 0] [(0, .app 128), (1, .app 9)]), (3, .cells [.sl (List.map GKept.c (u0b.gList ++ [GKept.mk u3e (GCode.mk vt.1.gHead vt.1.gBody vt.1.gVars) 0 0])), .sl (List.map cS u0b.gOpen), .int .i64 u0b.gNow] [(0, .app 128), (1, .app 9)])], []⟩ _ (by kernel_rfl) (fun X => by kernel_rfl) (.cons (cimpl_copyClause h522) (.cons (cl_cons (c := GKept.c) (x := GKept.mk u3e (GCode.mk vt.1.gHead vt.1.gBody vt.1.gVars) 0 0) (GKept.c_eq (GKept.mk u3e (GCode.mk vt.1.gHead vt.1.gBody vt.1.gVars) 0 0)) (cl_nil GKept.c)) (.cons (app_re2 GKept.c u0b.gList [GKept.mk u3e (GCode.mk vt.1.gHead vt.1.gBody vt.1.gVars) 0 0]) (.cons (app_leaf (c := GKept.c) (ys := [GKept.mk u3e (GCode.mk vt.1.gHead vt.1.gBody vt.1.gVars) 0 0]) GKept.c_leaf) (.cons (app_obl2 (c := GKept.c) (xs := u0b.gList) (ys := [GKept.mk u3e (GCode.mk vt.1.gHead vt.1.gBody vt.1.gVars) 0 0]) GKept.c_len h523) .nil))))) ?_
        refine Wc.region [] [] [2, 3, 13, 14, 15] [2, 3] [] ⟨[(2, (.ptr 2 0, [])), (3, (.ptr 3 0, [])), (13, (.v (.sl (List.map GClause.c vn.gClauses)), [])), (14, (.v (.int .i64 (vn.gClauses.length : Int)), [])), (15, (.v (.int .i64 (wr.i64 (u2w + 1))), []))], [(2, .cells [.sl (List.map GKept.c []), .sl (List.map cS []), .int .i64 0] [(0, .app 128), (1, .app 9)]), (3, .cells [.sl (List.map GKept.c (u0b.gList ++ [GKept.mk u3e (GCode.mk vt.1.gHead vt.1.gBody vt.1.gVars) 0 0])), .sl (List.map cS u0b.gOpen), .int .i64 u0b.gNow] [(0, .app 128), (1, .app 9)])], []⟩ _ (by kernel_rfl) .nil ?_
        exact ⟨_, Nat.lt_succ_self _, _, _, rfl, h518⟩
      · refine Wc.condF h519 (by kernel_rfl) ?_
        refine Wc.fix (st' := ⟨[(2, (.ptr 2 0, [])), (3, (.ptr 3 0, []))], [(2, .cells [.sl (List.map GKept.c []), .sl (List.map cS []), .int .i64 0] [(0, .app 128), (1, .app 9)]), (3, .cells (GStore.q u0b) [(0, .app 128), (1, .app 9)])], []⟩) [] [2, 3] [2, 3] [] (by kernel_rfl) ?_
        refine Wc.exit ?_
        obtain rfl := Option.some.inj h518
        exact ⟨_, rfl, rfl⟩
  · rintro st ⟨u82, rfl, rfl⟩
    apply Wc.seq
    refine Wc.region [{ md := 1 }, { tk := [34] }] [] [2] [2] [] ⟨[(2, (.ptr 2 0, []))], [(2, .cells (GStore.q u82) [(0, .app 128), (1, .app 9)])], []⟩ _ (by kernel_rfl) .nil ?_
    refine Wc.ret ?_
    obtain rfl := Option.some.inj h
    exact ⟨.inl rfl, by kernel_rfl, by kernel_rfl⟩

def plaws_heldStringS_L1 (k : Nat) (u0t : List ByteArray) : Nat → Int → Int → Option (Out Int Int)
  | 0, _, _ => none
  | m + 1, u2x, u2y =>
    if (decide (u2y < (u0t.length : Int))) = true then
      (at' u0t u2y).bind fun ua4 =>
      (plaws_markText k u2x).bind fun ubp =>
      if (!(sEq ua4 ubp)) = true then
        some (.ret (-1))
      else
        plaws_heldStringS_L1 k u0t m (wr.i64 (u2x + 1)) (wr.i64 (u2y + 1))
    else
      some (.done u2x)
def plaws_heldStringS (k : Nat) (u0t : List ByteArray) (u83 : Int) : Option Int :=
  (plaws_heldStringS_L1 k u0t k u83 0).bind fun out1 => match out1 with
  | .ret r => some r
  | .done u84 =>
    some u84
theorem claws_heldStringS {k : Nat} {u0t : List ByteArray} {u83 : Int} {r : Int} (h : plaws_heldStringS k u0t u83 = some r) : FnO Try.prog 62 [.v (.sl (List.map cS u0t)) [], .v (.int .i64 u83) []] (.v (.int .i64 r) []) [] := by
  refine FnO.of Try.func62 (rfl : Try.f62.body = some _) (Nat.le_of_ble_eq_true (by kernel_rfl)) (Nat.le_of_ble_eq_true (by kernel_rfl)) ?_
  intro w0 X0 Fin pv0 pb
  unfold plaws_heldStringS at h
  apply Wc.seq
  refine Wc.region [] [] [0, 1] [] [] ⟨[(0, (.v (.sl (List.map cS u0t)), [])), (1, (.v (.int .i64 u83), []))], [], []⟩ _ (by kernel_rfl) .nil ?_
  apply Wc.seq
  apply Wc.seq
  refine Wc.region [] [] [0, 1, 5] [] [] ⟨[(0, (.v (.sl (List.map cS u0t)), [])), (1, (.v (.int .i64 u83), [])), (5, (.v (.int .i64 0), []))], [], []⟩ _ (by kernel_rfl) .nil ?_
  obtain ⟨out1, h524, h⟩ := obind h
  refine Wc.lastJ (fun st => ∃ (u84 : Int), out1 = .done u84 ∧ st = ⟨[(1, (.v (.int .i64 u84), []))], [], []⟩) ?_ ?_
  · refine Wc.block ?_
    refine Wc.loop (fun m st => ∃ (u2x : Int) (u2y : Int), st = ⟨[(0, (.v (.sl (List.map cS u0t)), [])), (1, (.v (.int .i64 u2x), [])), (5, (.v (.int .i64 u2y), []))], [], []⟩ ∧ plaws_heldStringS_L1 k u0t m u2x u2y = some out1) ?_ k ⟨_, _, rfl, h524⟩
    rintro m st ⟨u2x, u2y, rfl, h524⟩
    cases m with
    | zero => exact (onone h524).elim
    | succ m =>
      apply Wc.seq
      apply Wc.seq
      refine Wc.region [{}, {}, { v := some (.int .i64 (u0t.length : Int)) }] [] [0, 1, 5, 9] [] [] ⟨[(0, (.v (.sl (List.map cS u0t)), [])), (1, (.v (.int .i64 u2x), [])), (5, (.v (.int .i64 u2y), [])), (9, (.v (.bool (decide (u2y < (u0t.length : Int)))), []))], [], []⟩ _ (by kernel_rfl) (.cons (len_obl cS u0t) .nil) ?_
      rcases oif h524 with ⟨h525, h524⟩ | ⟨h525, h524⟩
      · refine Wc.condT h525 (by kernel_rfl) ?_
        refine Wc.fix (st' := ⟨[(0, (.v (.sl (List.map cS u0t)), [])), (1, (.v (.int .i64 u2x), [])), (5, (.v (.int .i64 u2y), []))], [], []⟩) [] [0, 1, 5] [] [] (by kernel_rfl) ?_
        refine Wc.skip ?_
        apply Wc.seq
        refine Wc.block ?_
        apply Wc.seq
        apply Wc.seq
        obtain ⟨ua4, h526, h524⟩ := obind h524
        obtain ⟨ubp, h527, h524⟩ := obind h524
        refine Wc.draw hmix [{}, {}, { v := some (.vptr [.str ua4]) }, {}, {}, { r := some (.v (.str ubp) []) }] [] [0, 1, 5, 18] [] [] ⟨[(0, (.v (.sl (List.map cS u0t)), [])), (1, (.v (.int .i64 u2x), [])), (5, (.v (.int .i64 u2y), [])), (18, (.v (.bool (!(sEq ua4 ubp))), []))], [], []⟩ _ (by kernel_rfl) (fun X => by kernel_rfl) (.cons (at_obl (c := cS) rfl cS_len h526) (.cons (len_ok 1 [.str ua4]) (.cons (claws_markText h527) .nil))) ?_
        rcases oif h524 with ⟨h528, h524⟩ | ⟨h528, h524⟩
        · refine Wc.condT h528 (by kernel_rfl) ?_
          apply Wc.seq
          refine Wc.region [] [] [4] [] [] ⟨[(4, (.v (.int .i64 (-1)), []))], [], []⟩ _ (by kernel_rfl) .nil ?_
          refine Wc.ret ?_
          obtain rfl := Option.some.inj h524
          obtain rfl := Option.some.inj h
          exact ⟨.inl rfl, by kernel_rfl, by kernel_rfl⟩
        · refine Wc.condF h528 (by kernel_rfl) ?_
          refine Wc.fix (st' := ⟨[(0, (.v (.sl (List.map cS u0t)), [])), (1, (.v (.int .i64 u2x), [])), (5, (.v (.int .i64 u2y), []))], [], []⟩) [] [0, 1, 5] [] [] (by kernel_rfl) ?_
          refine Wc.skip ?_
          refine Wc.region [] [] [0, 1, 5] [] [] ⟨[(0, (.v (.sl (List.map cS u0t)), [])), (1, (.v (.int .i64 (wr.i64 (u2x + 1))), [])), (5, (.v (.int .i64 u2y), []))], [], []⟩ _ (by kernel_rfl) .nil ?_
          refine Wc.region [] [] [0, 1, 5] [] [] ⟨[(0, (.v (.sl (List.map cS u0t)), [])), (1, (.v (.int .i64 (wr.i64 (u2x + 1))), [])), (5, (.v (.int .i64 (wr.i64 (u2y + 1))), []))], [], []⟩ _ (by kernel_rfl) .nil ?_
          exact ⟨_, Nat.lt_succ_self _, _, _, rfl, h524⟩
      · refine Wc.condF h525 (by kernel_rfl) ?_
        refine Wc.fix (st' := ⟨[(1, (.v (.int .i64 u2x), []))], [], []⟩) [] [1] [] [] (by kernel_rfl) ?_
        refine Wc.exit ?_
        obtain rfl := Option.some.inj h524
        exact ⟨_, rfl, rfl⟩
  · rintro st ⟨u84, rfl, rfl⟩
    apply Wc.seq
    refine Wc.region [] [] [4] [] [] ⟨[(4, (.v (.int .i64 u84), []))], [], []⟩ _ (by kernel_rfl) .nil ?_
    refine Wc.ret ?_
    obtain rfl := Option.some.inj h
    exact ⟨.inl rfl, by kernel_rfl, by kernel_rfl⟩

def plaws_heldTermS_L1 (k : Nat) (rlaws_heldTermS : (List GTerm) → Int → Option Int) (vo : List GTerm) : Nat → Int → Int → Option (Out Int Int)
  | 0, _, _ => none
  | m + 1, u0c, zy =>
    if (decide (zy < (vo.length : Int))) = true then
      (at' vo zy).bind fun u85 =>
      if (u85.gKind != u0c) = true then
        some (.ret (-1))
      else
        (at' vo zy).bind fun u5y =>
        (plaws_markText k (wr.i64 (u0c + 1))).bind fun ubq =>
        if (!(sEq u5y.gName ubq)) = true then
          some (.ret (-1))
        else
          (at' vo zy).bind fun u6g =>
          if (u6g.gNum != (wr.i64 ((wr.i64 (u0c + 1)) + 1))) = true then
            some (.ret (-1))
          else
            (at' vo zy).bind fun ua5 =>
            (rlaws_heldTermS ua5.gKids (wr.i64 ((wr.i64 ((wr.i64 (u0c + 1)) + 1)) + 1))).bind fun u5d =>
            if (decide (u5d < 0)) = true then
              some (.ret (-1))
            else
              plaws_heldTermS_L1 k rlaws_heldTermS vo m u5d (wr.i64 (zy + 1))
    else
      some (.done u0c)
mutual
def plaws_heldTermS : Nat → (List GTerm) → Int → Option Int
  | 0, _, _ => none
  | k + 1, vo, u4e =>
    (plaws_heldTermS_L1 k (plaws_heldTermS k) vo k u4e 0).bind fun out1 => match out1 with
    | .ret r => some r
    | .done u86 =>
      some u86
end
theorem all_plaws_heldTermS : ∀ k : Nat, (∀ {vo : List GTerm} {u4e : Int} {r : Int}, plaws_heldTermS k vo u4e = some r → FnO Try.prog 77 [.v (.sl (List.map GTerm.c vo)) [], .v (.int .i64 u4e) []] (.v (.int .i64 r) []) []) := by
  intro k
  induction k with
  | zero =>
    · intro vo u4e r h
      exact (onone (by rw [plaws_heldTermS] at h; exact h)).elim
  | succ k ih =>
    have ih_plaws_heldTermS := @ih
    · intro vo u4e r h
      rw [plaws_heldTermS] at h
      refine FnO.of Try.func77 (rfl : Try.f77.body = some _) (Nat.le_of_ble_eq_true (by kernel_rfl)) (Nat.le_of_ble_eq_true (by kernel_rfl)) ?_
      intro w0 X0 Fin pv0 pb
      apply Wc.seq
      refine Wc.region [] [] [0, 1] [] [] ⟨[(0, (.v (.sl (List.map GTerm.c vo)), [])), (1, (.v (.int .i64 u4e), []))], [], []⟩ _ (by kernel_rfl) .nil ?_
      apply Wc.seq
      apply Wc.seq
      refine Wc.region [] [] [0, 1, 5] [] [] ⟨[(0, (.v (.sl (List.map GTerm.c vo)), [])), (1, (.v (.int .i64 u4e), [])), (5, (.v (.int .i64 0), []))], [], []⟩ _ (by kernel_rfl) .nil ?_
      obtain ⟨out1, h529, h⟩ := obind h
      refine Wc.lastJ (fun st => ∃ (u86 : Int), out1 = .done u86 ∧ st = ⟨[(1, (.v (.int .i64 u86), []))], [], []⟩) ?_ ?_
      · refine Wc.block ?_
        refine Wc.loop (fun m st => ∃ (u0c : Int) (zy : Int), st = ⟨[(0, (.v (.sl (List.map GTerm.c vo)), [])), (1, (.v (.int .i64 u0c), [])), (5, (.v (.int .i64 zy), []))], [], []⟩ ∧ plaws_heldTermS_L1 k (plaws_heldTermS k) vo m u0c zy = some out1) ?_ k ⟨_, _, rfl, h529⟩
        rintro m st ⟨u0c, zy, rfl, h529⟩
        cases m with
        | zero => exact (onone h529).elim
        | succ m =>
          apply Wc.seq
          apply Wc.seq
          refine Wc.region [{}, {}, { v := some (.int .i64 (vo.length : Int)) }] [] [0, 1, 5, 9] [] [] ⟨[(0, (.v (.sl (List.map GTerm.c vo)), [])), (1, (.v (.int .i64 u0c), [])), (5, (.v (.int .i64 zy), [])), (9, (.v (.bool (decide (zy < (vo.length : Int)))), []))], [], []⟩ _ (by kernel_rfl) (.cons (len_obl GTerm.c vo) .nil) ?_
          rcases oif h529 with ⟨h530, h529⟩ | ⟨h530, h529⟩
          · refine Wc.condT h530 (by kernel_rfl) ?_
            refine Wc.fix (st' := ⟨[(0, (.v (.sl (List.map GTerm.c vo)), [])), (1, (.v (.int .i64 u0c), [])), (5, (.v (.int .i64 zy), []))], [], []⟩) [] [0, 1, 5] [] [] (by kernel_rfl) ?_
            refine Wc.skip ?_
            apply Wc.seq
            refine Wc.block ?_
            apply Wc.seq
            apply Wc.seq
            obtain ⟨u85, h531, h529⟩ := obind h529
            refine Wc.region [{}, {}, { v := some (.vptr (GTerm.q u85)) }] [] [0, 1, 5, 18] [] [] ⟨[(0, (.v (.sl (List.map GTerm.c vo)), [])), (1, (.v (.int .i64 u0c), [])), (5, (.v (.int .i64 zy), [])), (18, (.v (.bool (u85.gKind != u0c)), []))], [], []⟩ _ (by kernel_rfl) (.cons (at_obl (c := GTerm.c) (GTerm.c_eq u85) GTerm.c_len h531) (.cons (len_ok 1 (GTerm.q u85)) .nil)) ?_
            rcases oif h529 with ⟨h532, h529⟩ | ⟨h532, h529⟩
            · refine Wc.condT h532 (by kernel_rfl) ?_
              apply Wc.seq
              refine Wc.region [] [] [4] [] [] ⟨[(4, (.v (.int .i64 (-1)), []))], [], []⟩ _ (by kernel_rfl) .nil ?_
              refine Wc.ret ?_
              obtain rfl := Option.some.inj h529
              obtain rfl := Option.some.inj h
              exact ⟨.inl rfl, by kernel_rfl, by kernel_rfl⟩
            · refine Wc.condF h532 (by kernel_rfl) ?_
              refine Wc.fix (st' := ⟨[(0, (.v (.sl (List.map GTerm.c vo)), [])), (1, (.v (.int .i64 u0c), [])), (5, (.v (.int .i64 zy), []))], [], []⟩) [] [0, 1, 5] [] [] (by kernel_rfl) ?_
              refine Wc.skip ?_
              apply Wc.seq
              refine Wc.region [] [] [0, 1, 5] [] [] ⟨[(0, (.v (.sl (List.map GTerm.c vo)), [])), (1, (.v (.int .i64 (wr.i64 (u0c + 1))), [])), (5, (.v (.int .i64 zy), []))], [], []⟩ _ (by kernel_rfl) .nil ?_
              apply Wc.seq
              apply Wc.seq
              obtain ⟨u5y, h533, h529⟩ := obind h529
              obtain ⟨ubq, h534, h529⟩ := obind h529
              refine Wc.draw hmix [{}, {}, { v := some (.vptr (GTerm.q u5y)) }, {}, {}, {}, { r := some (.v (.str ubq) []) }] [] [0, 1, 5, 28] [] [] ⟨[(0, (.v (.sl (List.map GTerm.c vo)), [])), (1, (.v (.int .i64 (wr.i64 (u0c + 1))), [])), (5, (.v (.int .i64 zy), [])), (28, (.v (.bool (!(sEq u5y.gName ubq))), []))], [], []⟩ _ (by kernel_rfl) (fun X => by kernel_rfl) (.cons (at_obl (c := GTerm.c) (GTerm.c_eq u5y) GTerm.c_len h533) (.cons (len_ok 1 [.str u5y.gName, .int .i64 u5y.gNum, .sl (List.map GTerm.c u5y.gKids)]) (.cons (claws_markText h534) .nil))) ?_
              rcases oif h529 with ⟨h535, h529⟩ | ⟨h535, h529⟩
              · refine Wc.condT h535 (by kernel_rfl) ?_
                apply Wc.seq
                refine Wc.region [] [] [4] [] [] ⟨[(4, (.v (.int .i64 (-1)), []))], [], []⟩ _ (by kernel_rfl) .nil ?_
                refine Wc.ret ?_
                obtain rfl := Option.some.inj h529
                obtain rfl := Option.some.inj h
                exact ⟨.inl rfl, by kernel_rfl, by kernel_rfl⟩
              · refine Wc.condF h535 (by kernel_rfl) ?_
                refine Wc.fix (st' := ⟨[(0, (.v (.sl (List.map GTerm.c vo)), [])), (1, (.v (.int .i64 (wr.i64 (u0c + 1))), [])), (5, (.v (.int .i64 zy), []))], [], []⟩) [] [0, 1, 5] [] [] (by kernel_rfl) ?_
                refine Wc.skip ?_
                apply Wc.seq
                refine Wc.region [] [] [0, 1, 5] [] [] ⟨[(0, (.v (.sl (List.map GTerm.c vo)), [])), (1, (.v (.int .i64 (wr.i64 ((wr.i64 (u0c + 1)) + 1))), [])), (5, (.v (.int .i64 zy), []))], [], []⟩ _ (by kernel_rfl) .nil ?_
                apply Wc.seq
                apply Wc.seq
                obtain ⟨u6g, h536, h529⟩ := obind h529
                refine Wc.region [{}, {}, { v := some (.vptr (GTerm.q u6g)) }] [] [0, 1, 5, 37] [] [] ⟨[(0, (.v (.sl (List.map GTerm.c vo)), [])), (1, (.v (.int .i64 (wr.i64 ((wr.i64 (u0c + 1)) + 1))), [])), (5, (.v (.int .i64 zy), [])), (37, (.v (.bool (u6g.gNum != (wr.i64 ((wr.i64 (u0c + 1)) + 1)))), []))], [], []⟩ _ (by kernel_rfl) (.cons (at_obl (c := GTerm.c) (GTerm.c_eq u6g) GTerm.c_len h536) (.cons (len_ok 1 [.int .i64 u6g.gNum, .sl (List.map GTerm.c u6g.gKids)]) .nil)) ?_
                rcases oif h529 with ⟨h537, h529⟩ | ⟨h537, h529⟩
                · refine Wc.condT h537 (by kernel_rfl) ?_
                  apply Wc.seq
                  refine Wc.region [] [] [4] [] [] ⟨[(4, (.v (.int .i64 (-1)), []))], [], []⟩ _ (by kernel_rfl) .nil ?_
                  refine Wc.ret ?_
                  obtain rfl := Option.some.inj h529
                  obtain rfl := Option.some.inj h
                  exact ⟨.inl rfl, by kernel_rfl, by kernel_rfl⟩
                · refine Wc.condF h537 (by kernel_rfl) ?_
                  refine Wc.fix (st' := ⟨[(0, (.v (.sl (List.map GTerm.c vo)), [])), (1, (.v (.int .i64 (wr.i64 ((wr.i64 (u0c + 1)) + 1))), [])), (5, (.v (.int .i64 zy), []))], [], []⟩) [] [0, 1, 5] [] [] (by kernel_rfl) ?_
                  refine Wc.skip ?_
                  apply Wc.seq
                  refine Wc.region [] [] [0, 1, 5] [] [] ⟨[(0, (.v (.sl (List.map GTerm.c vo)), [])), (1, (.v (.int .i64 (wr.i64 ((wr.i64 ((wr.i64 (u0c + 1)) + 1)) + 1))), [])), (5, (.v (.int .i64 zy), []))], [], []⟩ _ (by kernel_rfl) .nil ?_
                  apply Wc.seq
                  obtain ⟨ua5, h538, h529⟩ := obind h529
                  obtain ⟨u5d, h539, h529⟩ := obind h529
                  refine Wc.region [{}, {}, { v := some (.vptr (GTerm.q ua5)) }, {}, {}, {}, { r := some (.v (.int .i64 u5d) []) }] [] [0, 1, 5] [] [] ⟨[(0, (.v (.sl (List.map GTerm.c vo)), [])), (1, (.v (.int .i64 u5d), [])), (5, (.v (.int .i64 zy), []))], [], []⟩ _ (by kernel_rfl) (.cons (at_obl (c := GTerm.c) (GTerm.c_eq ua5) GTerm.c_len h538) (.cons (len_ok 1 [.sl (List.map GTerm.c ua5.gKids)]) (.cons (ih_plaws_heldTermS h539) .nil))) ?_
                  apply Wc.seq
                  refine Wc.region [] [] [0, 1, 5, 48] [] [] ⟨[(0, (.v (.sl (List.map GTerm.c vo)), [])), (1, (.v (.int .i64 u5d), [])), (5, (.v (.int .i64 zy), [])), (48, (.v (.bool (decide (u5d < 0))), []))], [], []⟩ _ (by kernel_rfl) .nil ?_
                  rcases oif h529 with ⟨h540, h529⟩ | ⟨h540, h529⟩
                  · refine Wc.condT h540 (by kernel_rfl) ?_
                    apply Wc.seq
                    refine Wc.region [] [] [4] [] [] ⟨[(4, (.v (.int .i64 (-1)), []))], [], []⟩ _ (by kernel_rfl) .nil ?_
                    refine Wc.ret ?_
                    obtain rfl := Option.some.inj h529
                    obtain rfl := Option.some.inj h
                    exact ⟨.inl rfl, by kernel_rfl, by kernel_rfl⟩
                  · refine Wc.condF h540 (by kernel_rfl) ?_
                    refine Wc.fix (st' := ⟨[(0, (.v (.sl (List.map GTerm.c vo)), [])), (1, (.v (.int .i64 u5d), [])), (5, (.v (.int .i64 zy), []))], [], []⟩) [] [0, 1, 5] [] [] (by kernel_rfl) ?_
                    refine Wc.skip ?_
                    refine Wc.region [] [] [0, 1, 5] [] [] ⟨[(0, (.v (.sl (List.map GTerm.c vo)), [])), (1, (.v (.int .i64 u5d), [])), (5, (.v (.int .i64 (wr.i64 (zy + 1))), []))], [], []⟩ _ (by kernel_rfl) .nil ?_
                    exact ⟨_, Nat.lt_succ_self _, _, _, rfl, h529⟩
          · refine Wc.condF h530 (by kernel_rfl) ?_
            refine Wc.fix (st' := ⟨[(1, (.v (.int .i64 u0c), []))], [], []⟩) [] [1] [] [] (by kernel_rfl) ?_
            refine Wc.exit ?_
            obtain rfl := Option.some.inj h529
            exact ⟨_, rfl, rfl⟩
      · rintro st ⟨u86, rfl, rfl⟩
        apply Wc.seq
        refine Wc.region [] [] [4] [] [] ⟨[(4, (.v (.int .i64 u86), []))], [], []⟩ _ (by kernel_rfl) .nil ?_
        refine Wc.ret ?_
        obtain rfl := Option.some.inj h
        exact ⟨.inl rfl, by kernel_rfl, by kernel_rfl⟩
theorem claws_heldTermS {k : Nat} {vo : List GTerm} {u4e : Int} {r : Int} (h : plaws_heldTermS k vo u4e = some r) : FnO Try.prog 77 [.v (.sl (List.map GTerm.c vo)) [], .v (.int .i64 u4e) []] (.v (.int .i64 r) []) [] := (all_plaws_heldTermS k) h

def plaws_heldInsS_L1 (k : Nat) (z3 : List GIns) : Nat → Int → Int → Option (Out Int Int)
  | 0, _, _ => none
  | m + 1, zl, zz =>
    if (decide (zz < (z3.length : Int))) = true then
      (at' z3 zz).bind fun u87 =>
      if (u87.gOp != zl) = true then
        some (.ret (-1))
      else
        (at' z3 zz).bind fun u5z =>
        (plaws_markText k (wr.i64 (zl + 1))).bind fun ubr =>
        if (!(sEq u5z.gName ubr)) = true then
          some (.ret (-1))
        else
          (at' z3 zz).bind fun u6h =>
          if (u6h.gNum != (wr.i64 ((wr.i64 (zl + 1)) + 1))) = true then
            some (.ret (-1))
          else
            (at' z3 zz).bind fun u88 =>
            if (u88.gMany != (wr.i64 ((wr.i64 ((wr.i64 (zl + 1)) + 1)) + 1))) = true then
              some (.ret (-1))
            else
              plaws_heldInsS_L1 k z3 m (wr.i64 ((wr.i64 ((wr.i64 ((wr.i64 (zl + 1)) + 1)) + 1)) + 1)) (wr.i64 (zz + 1))
    else
      some (.done zl)
def plaws_heldInsS (k : Nat) (z3 : List GIns) (u89 : Int) : Option Int :=
  (plaws_heldInsS_L1 k z3 k u89 0).bind fun out1 => match out1 with
  | .ret r => some r
  | .done u8a =>
    some u8a
theorem claws_heldInsS {k : Nat} {z3 : List GIns} {u89 : Int} {r : Int} (h : plaws_heldInsS k z3 u89 = some r) : FnO Try.prog 86 [.v (.sl (List.map GIns.c z3)) [], .v (.int .i64 u89) []] (.v (.int .i64 r) []) [] := by
  refine FnO.of Try.func86 (rfl : Try.f86.body = some _) (Nat.le_of_ble_eq_true (by kernel_rfl)) (Nat.le_of_ble_eq_true (by kernel_rfl)) ?_
  intro w0 X0 Fin pv0 pb
  unfold plaws_heldInsS at h
  apply Wc.seq
  refine Wc.region [] [] [0, 1] [] [] ⟨[(0, (.v (.sl (List.map GIns.c z3)), [])), (1, (.v (.int .i64 u89), []))], [], []⟩ _ (by kernel_rfl) .nil ?_
  apply Wc.seq
  apply Wc.seq
  refine Wc.region [] [] [0, 1, 5] [] [] ⟨[(0, (.v (.sl (List.map GIns.c z3)), [])), (1, (.v (.int .i64 u89), [])), (5, (.v (.int .i64 0), []))], [], []⟩ _ (by kernel_rfl) .nil ?_
  obtain ⟨out1, h541, h⟩ := obind h
  refine Wc.lastJ (fun st => ∃ (u8a : Int), out1 = .done u8a ∧ st = ⟨[(1, (.v (.int .i64 u8a), []))], [], []⟩) ?_ ?_
  · refine Wc.block ?_
    refine Wc.loop (fun m st => ∃ (zl : Int) (zz : Int), st = ⟨[(0, (.v (.sl (List.map GIns.c z3)), [])), (1, (.v (.int .i64 zl), [])), (5, (.v (.int .i64 zz), []))], [], []⟩ ∧ plaws_heldInsS_L1 k z3 m zl zz = some out1) ?_ k ⟨_, _, rfl, h541⟩
    rintro m st ⟨zl, zz, rfl, h541⟩
    cases m with
    | zero => exact (onone h541).elim
    | succ m =>
      apply Wc.seq
      apply Wc.seq
      refine Wc.region [{}, {}, { v := some (.int .i64 (z3.length : Int)) }] [] [0, 1, 5, 9] [] [] ⟨[(0, (.v (.sl (List.map GIns.c z3)), [])), (1, (.v (.int .i64 zl), [])), (5, (.v (.int .i64 zz), [])), (9, (.v (.bool (decide (zz < (z3.length : Int)))), []))], [], []⟩ _ (by kernel_rfl) (.cons (len_obl GIns.c z3) .nil) ?_
      rcases oif h541 with ⟨h542, h541⟩ | ⟨h542, h541⟩
      · refine Wc.condT h542 (by kernel_rfl) ?_
        refine Wc.fix (st' := ⟨[(0, (.v (.sl (List.map GIns.c z3)), [])), (1, (.v (.int .i64 zl), [])), (5, (.v (.int .i64 zz), []))], [], []⟩) [] [0, 1, 5] [] [] (by kernel_rfl) ?_
        refine Wc.skip ?_
        apply Wc.seq
        refine Wc.block ?_
        apply Wc.seq
        apply Wc.seq
        obtain ⟨u87, h543, h541⟩ := obind h541
        refine Wc.region [{}, {}, { v := some (.vptr (GIns.q u87)) }] [] [0, 1, 5, 18] [] [] ⟨[(0, (.v (.sl (List.map GIns.c z3)), [])), (1, (.v (.int .i64 zl), [])), (5, (.v (.int .i64 zz), [])), (18, (.v (.bool (u87.gOp != zl)), []))], [], []⟩ _ (by kernel_rfl) (.cons (at_obl (c := GIns.c) (GIns.c_eq u87) GIns.c_len h543) (.cons (len_ok 1 (GIns.q u87)) .nil)) ?_
        rcases oif h541 with ⟨h544, h541⟩ | ⟨h544, h541⟩
        · refine Wc.condT h544 (by kernel_rfl) ?_
          apply Wc.seq
          refine Wc.region [] [] [4] [] [] ⟨[(4, (.v (.int .i64 (-1)), []))], [], []⟩ _ (by kernel_rfl) .nil ?_
          refine Wc.ret ?_
          obtain rfl := Option.some.inj h541
          obtain rfl := Option.some.inj h
          exact ⟨.inl rfl, by kernel_rfl, by kernel_rfl⟩
        · refine Wc.condF h544 (by kernel_rfl) ?_
          refine Wc.fix (st' := ⟨[(0, (.v (.sl (List.map GIns.c z3)), [])), (1, (.v (.int .i64 zl), [])), (5, (.v (.int .i64 zz), []))], [], []⟩) [] [0, 1, 5] [] [] (by kernel_rfl) ?_
          refine Wc.skip ?_
          apply Wc.seq
          refine Wc.region [] [] [0, 1, 5] [] [] ⟨[(0, (.v (.sl (List.map GIns.c z3)), [])), (1, (.v (.int .i64 (wr.i64 (zl + 1))), [])), (5, (.v (.int .i64 zz), []))], [], []⟩ _ (by kernel_rfl) .nil ?_
          apply Wc.seq
          apply Wc.seq
          obtain ⟨u5z, h545, h541⟩ := obind h541
          obtain ⟨ubr, h546, h541⟩ := obind h541
          refine Wc.draw hmix [{}, {}, { v := some (.vptr (GIns.q u5z)) }, {}, {}, {}, { r := some (.v (.str ubr) []) }] [] [0, 1, 5, 28] [] [] ⟨[(0, (.v (.sl (List.map GIns.c z3)), [])), (1, (.v (.int .i64 (wr.i64 (zl + 1))), [])), (5, (.v (.int .i64 zz), [])), (28, (.v (.bool (!(sEq u5z.gName ubr))), []))], [], []⟩ _ (by kernel_rfl) (fun X => by kernel_rfl) (.cons (at_obl (c := GIns.c) (GIns.c_eq u5z) GIns.c_len h545) (.cons (len_ok 1 [.str u5z.gName, .int .i64 u5z.gNum, .int .i64 u5z.gMany]) (.cons (claws_markText h546) .nil))) ?_
          rcases oif h541 with ⟨h547, h541⟩ | ⟨h547, h541⟩
          · refine Wc.condT h547 (by kernel_rfl) ?_
            apply Wc.seq
            refine Wc.region [] [] [4] [] [] ⟨[(4, (.v (.int .i64 (-1)), []))], [], []⟩ _ (by kernel_rfl) .nil ?_
            refine Wc.ret ?_
            obtain rfl := Option.some.inj h541
            obtain rfl := Option.some.inj h
            exact ⟨.inl rfl, by kernel_rfl, by kernel_rfl⟩
          · refine Wc.condF h547 (by kernel_rfl) ?_
            refine Wc.fix (st' := ⟨[(0, (.v (.sl (List.map GIns.c z3)), [])), (1, (.v (.int .i64 (wr.i64 (zl + 1))), [])), (5, (.v (.int .i64 zz), []))], [], []⟩) [] [0, 1, 5] [] [] (by kernel_rfl) ?_
            refine Wc.skip ?_
            apply Wc.seq
            refine Wc.region [] [] [0, 1, 5] [] [] ⟨[(0, (.v (.sl (List.map GIns.c z3)), [])), (1, (.v (.int .i64 (wr.i64 ((wr.i64 (zl + 1)) + 1))), [])), (5, (.v (.int .i64 zz), []))], [], []⟩ _ (by kernel_rfl) .nil ?_
            apply Wc.seq
            apply Wc.seq
            obtain ⟨u6h, h548, h541⟩ := obind h541
            refine Wc.region [{}, {}, { v := some (.vptr (GIns.q u6h)) }] [] [0, 1, 5, 37] [] [] ⟨[(0, (.v (.sl (List.map GIns.c z3)), [])), (1, (.v (.int .i64 (wr.i64 ((wr.i64 (zl + 1)) + 1))), [])), (5, (.v (.int .i64 zz), [])), (37, (.v (.bool (u6h.gNum != (wr.i64 ((wr.i64 (zl + 1)) + 1)))), []))], [], []⟩ _ (by kernel_rfl) (.cons (at_obl (c := GIns.c) (GIns.c_eq u6h) GIns.c_len h548) (.cons (len_ok 1 [.int .i64 u6h.gNum, .int .i64 u6h.gMany]) .nil)) ?_
            rcases oif h541 with ⟨h549, h541⟩ | ⟨h549, h541⟩
            · refine Wc.condT h549 (by kernel_rfl) ?_
              apply Wc.seq
              refine Wc.region [] [] [4] [] [] ⟨[(4, (.v (.int .i64 (-1)), []))], [], []⟩ _ (by kernel_rfl) .nil ?_
              refine Wc.ret ?_
              obtain rfl := Option.some.inj h541
              obtain rfl := Option.some.inj h
              exact ⟨.inl rfl, by kernel_rfl, by kernel_rfl⟩
            · refine Wc.condF h549 (by kernel_rfl) ?_
              refine Wc.fix (st' := ⟨[(0, (.v (.sl (List.map GIns.c z3)), [])), (1, (.v (.int .i64 (wr.i64 ((wr.i64 (zl + 1)) + 1))), [])), (5, (.v (.int .i64 zz), []))], [], []⟩) [] [0, 1, 5] [] [] (by kernel_rfl) ?_
              refine Wc.skip ?_
              apply Wc.seq
              refine Wc.region [] [] [0, 1, 5] [] [] ⟨[(0, (.v (.sl (List.map GIns.c z3)), [])), (1, (.v (.int .i64 (wr.i64 ((wr.i64 ((wr.i64 (zl + 1)) + 1)) + 1))), [])), (5, (.v (.int .i64 zz), []))], [], []⟩ _ (by kernel_rfl) .nil ?_
              apply Wc.seq
              apply Wc.seq
              obtain ⟨u88, h550, h541⟩ := obind h541
              refine Wc.region [{}, {}, { v := some (.vptr (GIns.q u88)) }] [] [0, 1, 5, 46] [] [] ⟨[(0, (.v (.sl (List.map GIns.c z3)), [])), (1, (.v (.int .i64 (wr.i64 ((wr.i64 ((wr.i64 (zl + 1)) + 1)) + 1))), [])), (5, (.v (.int .i64 zz), [])), (46, (.v (.bool (u88.gMany != (wr.i64 ((wr.i64 ((wr.i64 (zl + 1)) + 1)) + 1)))), []))], [], []⟩ _ (by kernel_rfl) (.cons (at_obl (c := GIns.c) (GIns.c_eq u88) GIns.c_len h550) (.cons (len_ok 1 [.int .i64 u88.gMany]) .nil)) ?_
              rcases oif h541 with ⟨h551, h541⟩ | ⟨h551, h541⟩
              · refine Wc.condT h551 (by kernel_rfl) ?_
                apply Wc.seq
                refine Wc.region [] [] [4] [] [] ⟨[(4, (.v (.int .i64 (-1)), []))], [], []⟩ _ (by kernel_rfl) .nil ?_
                refine Wc.ret ?_
                obtain rfl := Option.some.inj h541
                obtain rfl := Option.some.inj h
                exact ⟨.inl rfl, by kernel_rfl, by kernel_rfl⟩
              · refine Wc.condF h551 (by kernel_rfl) ?_
                refine Wc.fix (st' := ⟨[(0, (.v (.sl (List.map GIns.c z3)), [])), (1, (.v (.int .i64 (wr.i64 ((wr.i64 ((wr.i64 (zl + 1)) + 1)) + 1))), [])), (5, (.v (.int .i64 zz), []))], [], []⟩) [] [0, 1, 5] [] [] (by kernel_rfl) ?_
                refine Wc.skip ?_
                refine Wc.region [] [] [0, 1, 5] [] [] ⟨[(0, (.v (.sl (List.map GIns.c z3)), [])), (1, (.v (.int .i64 (wr.i64 ((wr.i64 ((wr.i64 ((wr.i64 (zl + 1)) + 1)) + 1)) + 1))), [])), (5, (.v (.int .i64 zz), []))], [], []⟩ _ (by kernel_rfl) .nil ?_
                refine Wc.region [] [] [0, 1, 5] [] [] ⟨[(0, (.v (.sl (List.map GIns.c z3)), [])), (1, (.v (.int .i64 (wr.i64 ((wr.i64 ((wr.i64 ((wr.i64 (zl + 1)) + 1)) + 1)) + 1))), [])), (5, (.v (.int .i64 (wr.i64 (zz + 1))), []))], [], []⟩ _ (by kernel_rfl) .nil ?_
                exact ⟨_, Nat.lt_succ_self _, _, _, rfl, h541⟩
      · refine Wc.condF h542 (by kernel_rfl) ?_
        refine Wc.fix (st' := ⟨[(1, (.v (.int .i64 zl), []))], [], []⟩) [] [1] [] [] (by kernel_rfl) ?_
        refine Wc.exit ?_
        obtain rfl := Option.some.inj h541
        exact ⟨_, rfl, rfl⟩
  · rintro st ⟨u8a, rfl, rfl⟩
    apply Wc.seq
    refine Wc.region [] [] [4] [] [] ⟨[(4, (.v (.int .i64 u8a), []))], [], []⟩ _ (by kernel_rfl) .nil ?_
    refine Wc.ret ?_
    obtain rfl := Option.some.inj h
    exact ⟨.inl rfl, by kernel_rfl, by kernel_rfl⟩

def plaws_heldKeptS_L1 (k : Nat) (us : List GKept) : Nat → Int → Int → Option (Out Int Int)
  | 0, _, _ => none
  | m + 1, u0d, uy =>
    if (decide (uy < (us.length : Int))) = true then
      (at' us uy).bind fun u8b =>
      if (u8b.gClause.gHead.gKind != u0d) = true then
        some (.ret (-1))
      else
        (at' us uy).bind fun u1g =>
        (plaws_markText k (wr.i64 (u0d + 1))).bind fun ubs =>
        if (!(sEq u1g.gClause.gHead.gName ubs)) = true then
          some (.ret (-1))
        else
          (at' us uy).bind fun u1r =>
          if (u1r.gClause.gHead.gNum != (wr.i64 ((wr.i64 (u0d + 1)) + 1))) = true then
            some (.ret (-1))
          else
            (at' us uy).bind fun u2e =>
            (plaws_heldTermS k u2e.gClause.gHead.gKids (wr.i64 ((wr.i64 ((wr.i64 (u0d + 1)) + 1)) + 1))).bind fun u0m =>
            if (decide (u0m < 0)) = true then
              some (.ret (-1))
            else
              (at' us uy).bind fun u2f =>
              if (u2f.gClause.gBody.gKind != u0m) = true then
                some (.ret (-1))
              else
                (at' us uy).bind fun u2z =>
                (plaws_markText k (wr.i64 (u0m + 1))).bind fun ubt =>
                if (!(sEq u2z.gClause.gBody.gName ubt)) = true then
                  some (.ret (-1))
                else
                  (at' us uy).bind fun u3f =>
                  if (u3f.gClause.gBody.gNum != (wr.i64 ((wr.i64 (u0m + 1)) + 1))) = true then
                    some (.ret (-1))
                  else
                    (at' us uy).bind fun u4f =>
                    (plaws_heldTermS k u4f.gClause.gBody.gKids (wr.i64 ((wr.i64 ((wr.i64 (u0m + 1)) + 1)) + 1))).bind fun u40 =>
                    if (decide (u40 < 0)) = true then
                      some (.ret (-1))
                    else
                      (at' us uy).bind fun u4g =>
                      (plaws_markText k u40).bind fun ubu =>
                      if (!(sEq u4g.gClause.gFile ubu)) = true then
                        some (.ret (-1))
                      else
                        (at' us uy).bind fun u5e =>
                        (plaws_heldInsS k u5e.gCode.gHead (wr.i64 (u40 + 1))).bind fun u60 =>
                        if (decide (u60 < 0)) = true then
                          some (.ret (-1))
                        else
                          (at' us uy).bind fun u61 =>
                          (plaws_heldInsS k u61.gCode.gBody u60).bind fun u08 =>
                          if (decide (u08 < 0)) = true then
                            some (.ret (-1))
                          else
                            (at' us uy).bind fun u62 =>
                            if (u62.gCode.gVars != u08) = true then
                              some (.ret (-1))
                            else
                              (at' us uy).bind fun u6i =>
                              if (u6i.gBorn != (wr.i64 (u08 + 1))) = true then
                                some (.ret (-1))
                              else
                                (at' us uy).bind fun u8c =>
                                if (u8c.gDied != (wr.i64 ((wr.i64 (u08 + 1)) + 1))) = true then
                                  some (.ret (-1))
                                else
                                  plaws_heldKeptS_L1 k us m (wr.i64 ((wr.i64 ((wr.i64 (u08 + 1)) + 1)) + 1)) (wr.i64 (uy + 1))
    else
      some (.done u0d)
def plaws_heldKeptS (k : Nat) (us : List GKept) (u8d : Int) : Option Int :=
  (plaws_heldKeptS_L1 k us k u8d 0).bind fun out1 => match out1 with
  | .ret r => some r
  | .done u8e =>
    some u8e
set_option maxHeartbeats 4000000 in
theorem claws_heldKeptS {k : Nat} {us : List GKept} {u8d : Int} {r : Int} (h : plaws_heldKeptS k us u8d = some r) : FnO Try.prog 103 [.v (.sl (List.map GKept.c us)) [], .v (.int .i64 u8d) []] (.v (.int .i64 r) []) [] := by
  refine FnO.of Try.func103 (rfl : Try.f103.body = some _) (Nat.le_of_ble_eq_true (by kernel_rfl)) (Nat.le_of_ble_eq_true (by kernel_rfl)) ?_
  intro w0 X0 Fin pv0 pb
  unfold plaws_heldKeptS at h
  apply Wc.seq
  refine Wc.region [] [] [0, 1] [] [] ⟨[(0, (.v (.sl (List.map GKept.c us)), [])), (1, (.v (.int .i64 u8d), []))], [], []⟩ _ (by kernel_rfl) .nil ?_
  apply Wc.seq
  apply Wc.seq
  refine Wc.region [] [] [0, 1, 5] [] [] ⟨[(0, (.v (.sl (List.map GKept.c us)), [])), (1, (.v (.int .i64 u8d), [])), (5, (.v (.int .i64 0), []))], [], []⟩ _ (by kernel_rfl) .nil ?_
  obtain ⟨out1, h552, h⟩ := obind h
  refine Wc.lastJ (fun st => ∃ (u8e : Int), out1 = .done u8e ∧ st = ⟨[(1, (.v (.int .i64 u8e), []))], [], []⟩) ?_ ?_
  · refine Wc.block ?_
    refine Wc.loop (fun m st => ∃ (u0d : Int) (uy : Int), st = ⟨[(0, (.v (.sl (List.map GKept.c us)), [])), (1, (.v (.int .i64 u0d), [])), (5, (.v (.int .i64 uy), []))], [], []⟩ ∧ plaws_heldKeptS_L1 k us m u0d uy = some out1) ?_ k ⟨_, _, rfl, h552⟩
    rintro m st ⟨u0d, uy, rfl, h552⟩
    cases m with
    | zero => exact (onone h552).elim
    | succ m =>
      apply Wc.seq
      apply Wc.seq
      refine Wc.region [{}, {}, { v := some (.int .i64 (us.length : Int)) }] [] [0, 1, 5, 9] [] [] ⟨[(0, (.v (.sl (List.map GKept.c us)), [])), (1, (.v (.int .i64 u0d), [])), (5, (.v (.int .i64 uy), [])), (9, (.v (.bool (decide (uy < (us.length : Int)))), []))], [], []⟩ _ (by kernel_rfl) (.cons (len_obl GKept.c us) .nil) ?_
      rcases oif h552 with ⟨h553, h552⟩ | ⟨h553, h552⟩
      · refine Wc.condT h553 (by kernel_rfl) ?_
        refine Wc.fix (st' := ⟨[(0, (.v (.sl (List.map GKept.c us)), [])), (1, (.v (.int .i64 u0d), [])), (5, (.v (.int .i64 uy), []))], [], []⟩) [] [0, 1, 5] [] [] (by kernel_rfl) ?_
        refine Wc.skip ?_
        apply Wc.seq
        refine Wc.block ?_
        apply Wc.seq
        apply Wc.seq
        obtain ⟨u8b, h554, h552⟩ := obind h552
        refine Wc.region [{}, {}, { v := some (.vptr (GKept.q u8b)) }] [] [0, 1, 5, 20] [] [] ⟨[(0, (.v (.sl (List.map GKept.c us)), [])), (1, (.v (.int .i64 u0d), [])), (5, (.v (.int .i64 uy), [])), (20, (.v (.bool (u8b.gClause.gHead.gKind != u0d)), []))], [], []⟩ _ (by kernel_rfl) (.cons (at_obl (c := GKept.c) (GKept.c_eq u8b) GKept.c_len h554) (.cons (len_ok 1 (GKept.q u8b)) .nil)) ?_
        rcases oif h552 with ⟨h555, h552⟩ | ⟨h555, h552⟩
        · refine Wc.condT h555 (by kernel_rfl) ?_
          apply Wc.seq
          refine Wc.region [] [] [4] [] [] ⟨[(4, (.v (.int .i64 (-1)), []))], [], []⟩ _ (by kernel_rfl) .nil ?_
          refine Wc.ret ?_
          obtain rfl := Option.some.inj h552
          obtain rfl := Option.some.inj h
          exact ⟨.inl rfl, by kernel_rfl, by kernel_rfl⟩
        · refine Wc.condF h555 (by kernel_rfl) ?_
          refine Wc.fix (st' := ⟨[(0, (.v (.sl (List.map GKept.c us)), [])), (1, (.v (.int .i64 u0d), [])), (5, (.v (.int .i64 uy), []))], [], []⟩) [] [0, 1, 5] [] [] (by kernel_rfl) ?_
          refine Wc.skip ?_
          apply Wc.seq
          refine Wc.region [] [] [0, 1, 5] [] [] ⟨[(0, (.v (.sl (List.map GKept.c us)), [])), (1, (.v (.int .i64 (wr.i64 (u0d + 1))), [])), (5, (.v (.int .i64 uy), []))], [], []⟩ _ (by kernel_rfl) .nil ?_
          apply Wc.seq
          apply Wc.seq
          obtain ⟨u1g, h556, h552⟩ := obind h552
          obtain ⟨ubs, h557, h552⟩ := obind h552
          refine Wc.draw hmix [{}, {}, { v := some (.vptr (GKept.q u1g)) }, {}, {}, {}, {}, {}, { r := some (.v (.str ubs) []) }] [] [0, 1, 5, 32] [] [] ⟨[(0, (.v (.sl (List.map GKept.c us)), [])), (1, (.v (.int .i64 (wr.i64 (u0d + 1))), [])), (5, (.v (.int .i64 uy), [])), (32, (.v (.bool (!(sEq u1g.gClause.gHead.gName ubs))), []))], [], []⟩ _ (by kernel_rfl) (fun X => by kernel_rfl) (.cons (at_obl (c := GKept.c) (GKept.c_eq u1g) GKept.c_len h556) (.cons (len_ok 1 [.str u1g.gClause.gHead.gName, .int .i64 u1g.gClause.gHead.gNum, .sl (List.map GTerm.c u1g.gClause.gHead.gKids), .int .i64 u1g.gClause.gBody.gKind, .str u1g.gClause.gBody.gName, .int .i64 u1g.gClause.gBody.gNum, .sl (List.map GTerm.c u1g.gClause.gBody.gKids), .str u1g.gClause.gFile, .sl (List.map GIns.c u1g.gCode.gHead), .sl (List.map GIns.c u1g.gCode.gBody), .int .i64 u1g.gCode.gVars, .int .i64 u1g.gBorn, .int .i64 u1g.gDied]) (.cons (claws_markText h557) .nil))) ?_
          rcases oif h552 with ⟨h558, h552⟩ | ⟨h558, h552⟩
          · refine Wc.condT h558 (by kernel_rfl) ?_
            apply Wc.seq
            refine Wc.region [] [] [4] [] [] ⟨[(4, (.v (.int .i64 (-1)), []))], [], []⟩ _ (by kernel_rfl) .nil ?_
            refine Wc.ret ?_
            obtain rfl := Option.some.inj h552
            obtain rfl := Option.some.inj h
            exact ⟨.inl rfl, by kernel_rfl, by kernel_rfl⟩
          · refine Wc.condF h558 (by kernel_rfl) ?_
            refine Wc.fix (st' := ⟨[(0, (.v (.sl (List.map GKept.c us)), [])), (1, (.v (.int .i64 (wr.i64 (u0d + 1))), [])), (5, (.v (.int .i64 uy), []))], [], []⟩) [] [0, 1, 5] [] [] (by kernel_rfl) ?_
            refine Wc.skip ?_
            apply Wc.seq
            refine Wc.region [] [] [0, 1, 5] [] [] ⟨[(0, (.v (.sl (List.map GKept.c us)), [])), (1, (.v (.int .i64 (wr.i64 ((wr.i64 (u0d + 1)) + 1))), [])), (5, (.v (.int .i64 uy), []))], [], []⟩ _ (by kernel_rfl) .nil ?_
            apply Wc.seq
            apply Wc.seq
            obtain ⟨u1r, h559, h552⟩ := obind h552
            refine Wc.region [{}, {}, { v := some (.vptr (GKept.q u1r)) }] [] [0, 1, 5, 43] [] [] ⟨[(0, (.v (.sl (List.map GKept.c us)), [])), (1, (.v (.int .i64 (wr.i64 ((wr.i64 (u0d + 1)) + 1))), [])), (5, (.v (.int .i64 uy), [])), (43, (.v (.bool (u1r.gClause.gHead.gNum != (wr.i64 ((wr.i64 (u0d + 1)) + 1)))), []))], [], []⟩ _ (by kernel_rfl) (.cons (at_obl (c := GKept.c) (GKept.c_eq u1r) GKept.c_len h559) (.cons (len_ok 1 [.int .i64 u1r.gClause.gHead.gNum, .sl (List.map GTerm.c u1r.gClause.gHead.gKids), .int .i64 u1r.gClause.gBody.gKind, .str u1r.gClause.gBody.gName, .int .i64 u1r.gClause.gBody.gNum, .sl (List.map GTerm.c u1r.gClause.gBody.gKids), .str u1r.gClause.gFile, .sl (List.map GIns.c u1r.gCode.gHead), .sl (List.map GIns.c u1r.gCode.gBody), .int .i64 u1r.gCode.gVars, .int .i64 u1r.gBorn, .int .i64 u1r.gDied]) .nil)) ?_
            rcases oif h552 with ⟨h560, h552⟩ | ⟨h560, h552⟩
            · refine Wc.condT h560 (by kernel_rfl) ?_
              apply Wc.seq
              refine Wc.region [] [] [4] [] [] ⟨[(4, (.v (.int .i64 (-1)), []))], [], []⟩ _ (by kernel_rfl) .nil ?_
              refine Wc.ret ?_
              obtain rfl := Option.some.inj h552
              obtain rfl := Option.some.inj h
              exact ⟨.inl rfl, by kernel_rfl, by kernel_rfl⟩
            · refine Wc.condF h560 (by kernel_rfl) ?_
              refine Wc.fix (st' := ⟨[(0, (.v (.sl (List.map GKept.c us)), [])), (1, (.v (.int .i64 (wr.i64 ((wr.i64 (u0d + 1)) + 1))), [])), (5, (.v (.int .i64 uy), []))], [], []⟩) [] [0, 1, 5] [] [] (by kernel_rfl) ?_
              refine Wc.skip ?_
              apply Wc.seq
              refine Wc.region [] [] [0, 1, 5] [] [] ⟨[(0, (.v (.sl (List.map GKept.c us)), [])), (1, (.v (.int .i64 (wr.i64 ((wr.i64 ((wr.i64 (u0d + 1)) + 1)) + 1))), [])), (5, (.v (.int .i64 uy), []))], [], []⟩ _ (by kernel_rfl) .nil ?_
              apply Wc.seq
              obtain ⟨u2e, h561, h552⟩ := obind h552
              obtain ⟨u0m, h562, h552⟩ := obind h552
              refine Wc.region [{}, {}, { v := some (.vptr (GKept.q u2e)) }, {}, {}, {}, {}, {}, { r := some (.v (.int .i64 u0m) []) }] [] [0, 1, 5] [] [] ⟨[(0, (.v (.sl (List.map GKept.c us)), [])), (1, (.v (.int .i64 u0m), [])), (5, (.v (.int .i64 uy), []))], [], []⟩ _ (by kernel_rfl) (.cons (at_obl (c := GKept.c) (GKept.c_eq u2e) GKept.c_len h561) (.cons (len_ok 1 [.sl (List.map GTerm.c u2e.gClause.gHead.gKids), .int .i64 u2e.gClause.gBody.gKind, .str u2e.gClause.gBody.gName, .int .i64 u2e.gClause.gBody.gNum, .sl (List.map GTerm.c u2e.gClause.gBody.gKids), .str u2e.gClause.gFile, .sl (List.map GIns.c u2e.gCode.gHead), .sl (List.map GIns.c u2e.gCode.gBody), .int .i64 u2e.gCode.gVars, .int .i64 u2e.gBorn, .int .i64 u2e.gDied]) (.cons (claws_heldTermS h562) .nil))) ?_
              apply Wc.seq
              apply Wc.seq
              refine Wc.region [] [] [0, 1, 5, 56] [] [] ⟨[(0, (.v (.sl (List.map GKept.c us)), [])), (1, (.v (.int .i64 u0m), [])), (5, (.v (.int .i64 uy), [])), (56, (.v (.bool (decide (u0m < 0))), []))], [], []⟩ _ (by kernel_rfl) .nil ?_
              rcases oif h552 with ⟨h563, h552⟩ | ⟨h563, h552⟩
              · refine Wc.condT h563 (by kernel_rfl) ?_
                apply Wc.seq
                refine Wc.region [] [] [4] [] [] ⟨[(4, (.v (.int .i64 (-1)), []))], [], []⟩ _ (by kernel_rfl) .nil ?_
                refine Wc.ret ?_
                obtain rfl := Option.some.inj h552
                obtain rfl := Option.some.inj h
                exact ⟨.inl rfl, by kernel_rfl, by kernel_rfl⟩
              · refine Wc.condF h563 (by kernel_rfl) ?_
                refine Wc.fix (st' := ⟨[(0, (.v (.sl (List.map GKept.c us)), [])), (1, (.v (.int .i64 u0m), [])), (5, (.v (.int .i64 uy), []))], [], []⟩) [] [0, 1, 5] [] [] (by kernel_rfl) ?_
                refine Wc.skip ?_
                apply Wc.seq
                apply Wc.seq
                obtain ⟨u2f, h564, h552⟩ := obind h552
                refine Wc.region [{}, {}, { v := some (.vptr (GKept.q u2f)) }] [] [0, 1, 5, 65] [] [] ⟨[(0, (.v (.sl (List.map GKept.c us)), [])), (1, (.v (.int .i64 u0m), [])), (5, (.v (.int .i64 uy), [])), (65, (.v (.bool (u2f.gClause.gBody.gKind != u0m)), []))], [], []⟩ _ (by kernel_rfl) (.cons (at_obl (c := GKept.c) (GKept.c_eq u2f) GKept.c_len h564) (.cons (len_ok 1 [.int .i64 u2f.gClause.gBody.gKind, .str u2f.gClause.gBody.gName, .int .i64 u2f.gClause.gBody.gNum, .sl (List.map GTerm.c u2f.gClause.gBody.gKids), .str u2f.gClause.gFile, .sl (List.map GIns.c u2f.gCode.gHead), .sl (List.map GIns.c u2f.gCode.gBody), .int .i64 u2f.gCode.gVars, .int .i64 u2f.gBorn, .int .i64 u2f.gDied]) .nil)) ?_
                rcases oif h552 with ⟨h565, h552⟩ | ⟨h565, h552⟩
                · refine Wc.condT h565 (by kernel_rfl) ?_
                  apply Wc.seq
                  refine Wc.region [] [] [4] [] [] ⟨[(4, (.v (.int .i64 (-1)), []))], [], []⟩ _ (by kernel_rfl) .nil ?_
                  refine Wc.ret ?_
                  obtain rfl := Option.some.inj h552
                  obtain rfl := Option.some.inj h
                  exact ⟨.inl rfl, by kernel_rfl, by kernel_rfl⟩
                · refine Wc.condF h565 (by kernel_rfl) ?_
                  refine Wc.fix (st' := ⟨[(0, (.v (.sl (List.map GKept.c us)), [])), (1, (.v (.int .i64 u0m), [])), (5, (.v (.int .i64 uy), []))], [], []⟩) [] [0, 1, 5] [] [] (by kernel_rfl) ?_
                  refine Wc.skip ?_
                  apply Wc.seq
                  refine Wc.region [] [] [0, 1, 5] [] [] ⟨[(0, (.v (.sl (List.map GKept.c us)), [])), (1, (.v (.int .i64 (wr.i64 (u0m + 1))), [])), (5, (.v (.int .i64 uy), []))], [], []⟩ _ (by kernel_rfl) .nil ?_
                  apply Wc.seq
                  apply Wc.seq
                  obtain ⟨u2z, h566, h552⟩ := obind h552
                  obtain ⟨ubt, h567, h552⟩ := obind h552
                  refine Wc.draw hmix [{}, {}, { v := some (.vptr (GKept.q u2z)) }, {}, {}, {}, {}, {}, { r := some (.v (.str ubt) []) }] [] [0, 1, 5, 77] [] [] ⟨[(0, (.v (.sl (List.map GKept.c us)), [])), (1, (.v (.int .i64 (wr.i64 (u0m + 1))), [])), (5, (.v (.int .i64 uy), [])), (77, (.v (.bool (!(sEq u2z.gClause.gBody.gName ubt))), []))], [], []⟩ _ (by kernel_rfl) (fun X => by kernel_rfl) (.cons (at_obl (c := GKept.c) (GKept.c_eq u2z) GKept.c_len h566) (.cons (len_ok 1 [.str u2z.gClause.gBody.gName, .int .i64 u2z.gClause.gBody.gNum, .sl (List.map GTerm.c u2z.gClause.gBody.gKids), .str u2z.gClause.gFile, .sl (List.map GIns.c u2z.gCode.gHead), .sl (List.map GIns.c u2z.gCode.gBody), .int .i64 u2z.gCode.gVars, .int .i64 u2z.gBorn, .int .i64 u2z.gDied]) (.cons (claws_markText h567) .nil))) ?_
                  rcases oif h552 with ⟨h568, h552⟩ | ⟨h568, h552⟩
                  · refine Wc.condT h568 (by kernel_rfl) ?_
                    apply Wc.seq
                    refine Wc.region [] [] [4] [] [] ⟨[(4, (.v (.int .i64 (-1)), []))], [], []⟩ _ (by kernel_rfl) .nil ?_
                    refine Wc.ret ?_
                    obtain rfl := Option.some.inj h552
                    obtain rfl := Option.some.inj h
                    exact ⟨.inl rfl, by kernel_rfl, by kernel_rfl⟩
                  · refine Wc.condF h568 (by kernel_rfl) ?_
                    refine Wc.fix (st' := ⟨[(0, (.v (.sl (List.map GKept.c us)), [])), (1, (.v (.int .i64 (wr.i64 (u0m + 1))), [])), (5, (.v (.int .i64 uy), []))], [], []⟩) [] [0, 1, 5] [] [] (by kernel_rfl) ?_
                    refine Wc.skip ?_
                    apply Wc.seq
                    refine Wc.region [] [] [0, 1, 5] [] [] ⟨[(0, (.v (.sl (List.map GKept.c us)), [])), (1, (.v (.int .i64 (wr.i64 ((wr.i64 (u0m + 1)) + 1))), [])), (5, (.v (.int .i64 uy), []))], [], []⟩ _ (by kernel_rfl) .nil ?_
                    apply Wc.seq
                    apply Wc.seq
                    obtain ⟨u3f, h569, h552⟩ := obind h552
                    refine Wc.region [{}, {}, { v := some (.vptr (GKept.q u3f)) }] [] [0, 1, 5, 88] [] [] ⟨[(0, (.v (.sl (List.map GKept.c us)), [])), (1, (.v (.int .i64 (wr.i64 ((wr.i64 (u0m + 1)) + 1))), [])), (5, (.v (.int .i64 uy), [])), (88, (.v (.bool (u3f.gClause.gBody.gNum != (wr.i64 ((wr.i64 (u0m + 1)) + 1)))), []))], [], []⟩ _ (by kernel_rfl) (.cons (at_obl (c := GKept.c) (GKept.c_eq u3f) GKept.c_len h569) (.cons (len_ok 1 [.int .i64 u3f.gClause.gBody.gNum, .sl (List.map GTerm.c u3f.gClause.gBody.gKids), .str u3f.gClause.gFile, .sl (List.map GIns.c u3f.gCode.gHead), .sl (List.map GIns.c u3f.gCode.gBody), .int .i64 u3f.gCode.gVars, .int .i64 u3f.gBorn, .int .i64 u3f.gDied]) .nil)) ?_
                    rcases oif h552 with ⟨h570, h552⟩ | ⟨h570, h552⟩
                    · refine Wc.condT h570 (by kernel_rfl) ?_
                      apply Wc.seq
                      refine Wc.region [] [] [4] [] [] ⟨[(4, (.v (.int .i64 (-1)), []))], [], []⟩ _ (by kernel_rfl) .nil ?_
                      refine Wc.ret ?_
                      obtain rfl := Option.some.inj h552
                      obtain rfl := Option.some.inj h
                      exact ⟨.inl rfl, by kernel_rfl, by kernel_rfl⟩
                    · refine Wc.condF h570 (by kernel_rfl) ?_
                      refine Wc.fix (st' := ⟨[(0, (.v (.sl (List.map GKept.c us)), [])), (1, (.v (.int .i64 (wr.i64 ((wr.i64 (u0m + 1)) + 1))), [])), (5, (.v (.int .i64 uy), []))], [], []⟩) [] [0, 1, 5] [] [] (by kernel_rfl) ?_
                      refine Wc.skip ?_
                      apply Wc.seq
                      refine Wc.region [] [] [0, 1, 5] [] [] ⟨[(0, (.v (.sl (List.map GKept.c us)), [])), (1, (.v (.int .i64 (wr.i64 ((wr.i64 ((wr.i64 (u0m + 1)) + 1)) + 1))), [])), (5, (.v (.int .i64 uy), []))], [], []⟩ _ (by kernel_rfl) .nil ?_
                      apply Wc.seq
                      obtain ⟨u4f, h571, h552⟩ := obind h552
                      obtain ⟨u40, h572, h552⟩ := obind h552
                      refine Wc.region [{}, {}, { v := some (.vptr (GKept.q u4f)) }, {}, {}, {}, {}, {}, { r := some (.v (.int .i64 u40) []) }] [] [0, 1, 5] [] [] ⟨[(0, (.v (.sl (List.map GKept.c us)), [])), (1, (.v (.int .i64 u40), [])), (5, (.v (.int .i64 uy), []))], [], []⟩ _ (by kernel_rfl) (.cons (at_obl (c := GKept.c) (GKept.c_eq u4f) GKept.c_len h571) (.cons (len_ok 1 [.sl (List.map GTerm.c u4f.gClause.gBody.gKids), .str u4f.gClause.gFile, .sl (List.map GIns.c u4f.gCode.gHead), .sl (List.map GIns.c u4f.gCode.gBody), .int .i64 u4f.gCode.gVars, .int .i64 u4f.gBorn, .int .i64 u4f.gDied]) (.cons (claws_heldTermS h572) .nil))) ?_
                      apply Wc.seq
                      apply Wc.seq
                      refine Wc.region [] [] [0, 1, 5, 101] [] [] ⟨[(0, (.v (.sl (List.map GKept.c us)), [])), (1, (.v (.int .i64 u40), [])), (5, (.v (.int .i64 uy), [])), (101, (.v (.bool (decide (u40 < 0))), []))], [], []⟩ _ (by kernel_rfl) .nil ?_
                      rcases oif h552 with ⟨h573, h552⟩ | ⟨h573, h552⟩
                      · refine Wc.condT h573 (by kernel_rfl) ?_
                        apply Wc.seq
                        refine Wc.region [] [] [4] [] [] ⟨[(4, (.v (.int .i64 (-1)), []))], [], []⟩ _ (by kernel_rfl) .nil ?_
                        refine Wc.ret ?_
                        obtain rfl := Option.some.inj h552
                        obtain rfl := Option.some.inj h
                        exact ⟨.inl rfl, by kernel_rfl, by kernel_rfl⟩
                      · refine Wc.condF h573 (by kernel_rfl) ?_
                        refine Wc.fix (st' := ⟨[(0, (.v (.sl (List.map GKept.c us)), [])), (1, (.v (.int .i64 u40), [])), (5, (.v (.int .i64 uy), []))], [], []⟩) [] [0, 1, 5] [] [] (by kernel_rfl) ?_
                        refine Wc.skip ?_
                        apply Wc.seq
                        apply Wc.seq
                        obtain ⟨u4g, h574, h552⟩ := obind h552
                        obtain ⟨ubu, h575, h552⟩ := obind h552
                        refine Wc.draw hmix [{}, {}, { v := some (.vptr (GKept.q u4g)) }, {}, {}, {}, {}, { r := some (.v (.str ubu) []) }] [] [0, 1, 5, 110] [] [] ⟨[(0, (.v (.sl (List.map GKept.c us)), [])), (1, (.v (.int .i64 u40), [])), (5, (.v (.int .i64 uy), [])), (110, (.v (.bool (!(sEq u4g.gClause.gFile ubu))), []))], [], []⟩ _ (by kernel_rfl) (fun X => by kernel_rfl) (.cons (at_obl (c := GKept.c) (GKept.c_eq u4g) GKept.c_len h574) (.cons (len_ok 1 [.str u4g.gClause.gFile, .sl (List.map GIns.c u4g.gCode.gHead), .sl (List.map GIns.c u4g.gCode.gBody), .int .i64 u4g.gCode.gVars, .int .i64 u4g.gBorn, .int .i64 u4g.gDied]) (.cons (claws_markText h575) .nil))) ?_
                        rcases oif h552 with ⟨h576, h552⟩ | ⟨h576, h552⟩
                        · refine Wc.condT h576 (by kernel_rfl) ?_
                          apply Wc.seq
                          refine Wc.region [] [] [4] [] [] ⟨[(4, (.v (.int .i64 (-1)), []))], [], []⟩ _ (by kernel_rfl) .nil ?_
                          refine Wc.ret ?_
                          obtain rfl := Option.some.inj h552
                          obtain rfl := Option.some.inj h
                          exact ⟨.inl rfl, by kernel_rfl, by kernel_rfl⟩
                        · refine Wc.condF h576 (by kernel_rfl) ?_
                          refine Wc.fix (st' := ⟨[(0, (.v (.sl (List.map GKept.c us)), [])), (1, (.v (.int .i64 u40), [])), (5, (.v (.int .i64 uy), []))], [], []⟩) [] [0, 1, 5] [] [] (by kernel_rfl) ?_
                          refine Wc.skip ?_
                          apply Wc.seq
                          refine Wc.region [] [] [0, 1, 5] [] [] ⟨[(0, (.v (.sl (List.map GKept.c us)), [])), (1, (.v (.int .i64 (wr.i64 (u40 + 1))), [])), (5, (.v (.int .i64 uy), []))], [], []⟩ _ (by kernel_rfl) .nil ?_
                          apply Wc.seq
                          obtain ⟨u5e, h577, h552⟩ := obind h552
                          obtain ⟨u60, h578, h552⟩ := obind h552
                          refine Wc.region [{}, {}, { v := some (.vptr (GKept.q u5e)) }, {}, {}, {}, {}, { r := some (.v (.int .i64 u60) []) }] [] [0, 1, 5] [] [] ⟨[(0, (.v (.sl (List.map GKept.c us)), [])), (1, (.v (.int .i64 u60), [])), (5, (.v (.int .i64 uy), []))], [], []⟩ _ (by kernel_rfl) (.cons (at_obl (c := GKept.c) (GKept.c_eq u5e) GKept.c_len h577) (.cons (len_ok 1 [.sl (List.map GIns.c u5e.gCode.gHead), .sl (List.map GIns.c u5e.gCode.gBody), .int .i64 u5e.gCode.gVars, .int .i64 u5e.gBorn, .int .i64 u5e.gDied]) (.cons (claws_heldInsS h578) .nil))) ?_
                          apply Wc.seq
                          apply Wc.seq
                          refine Wc.region [] [] [0, 1, 5, 122] [] [] ⟨[(0, (.v (.sl (List.map GKept.c us)), [])), (1, (.v (.int .i64 u60), [])), (5, (.v (.int .i64 uy), [])), (122, (.v (.bool (decide (u60 < 0))), []))], [], []⟩ _ (by kernel_rfl) .nil ?_
                          rcases oif h552 with ⟨h579, h552⟩ | ⟨h579, h552⟩
                          · refine Wc.condT h579 (by kernel_rfl) ?_
                            apply Wc.seq
                            refine Wc.region [] [] [4] [] [] ⟨[(4, (.v (.int .i64 (-1)), []))], [], []⟩ _ (by kernel_rfl) .nil ?_
                            refine Wc.ret ?_
                            obtain rfl := Option.some.inj h552
                            obtain rfl := Option.some.inj h
                            exact ⟨.inl rfl, by kernel_rfl, by kernel_rfl⟩
                          · refine Wc.condF h579 (by kernel_rfl) ?_
                            refine Wc.fix (st' := ⟨[(0, (.v (.sl (List.map GKept.c us)), [])), (1, (.v (.int .i64 u60), [])), (5, (.v (.int .i64 uy), []))], [], []⟩) [] [0, 1, 5] [] [] (by kernel_rfl) ?_
                            refine Wc.skip ?_
                            apply Wc.seq
                            obtain ⟨u61, h580, h552⟩ := obind h552
                            obtain ⟨u08, h581, h552⟩ := obind h552
                            refine Wc.region [{}, {}, { v := some (.vptr (GKept.q u61)) }, {}, {}, {}, {}, { r := some (.v (.int .i64 u08) []) }] [] [0, 1, 5] [] [] ⟨[(0, (.v (.sl (List.map GKept.c us)), [])), (1, (.v (.int .i64 u08), [])), (5, (.v (.int .i64 uy), []))], [], []⟩ _ (by kernel_rfl) (.cons (at_obl (c := GKept.c) (GKept.c_eq u61) GKept.c_len h580) (.cons (len_ok 1 [.sl (List.map GIns.c u61.gCode.gBody), .int .i64 u61.gCode.gVars, .int .i64 u61.gBorn, .int .i64 u61.gDied]) (.cons (claws_heldInsS h581) .nil))) ?_
                            apply Wc.seq
                            apply Wc.seq
                            refine Wc.region [] [] [0, 1, 5, 132] [] [] ⟨[(0, (.v (.sl (List.map GKept.c us)), [])), (1, (.v (.int .i64 u08), [])), (5, (.v (.int .i64 uy), [])), (132, (.v (.bool (decide (u08 < 0))), []))], [], []⟩ _ (by kernel_rfl) .nil ?_
                            rcases oif h552 with ⟨h582, h552⟩ | ⟨h582, h552⟩
                            · refine Wc.condT h582 (by kernel_rfl) ?_
                              apply Wc.seq
                              refine Wc.region [] [] [4] [] [] ⟨[(4, (.v (.int .i64 (-1)), []))], [], []⟩ _ (by kernel_rfl) .nil ?_
                              refine Wc.ret ?_
                              obtain rfl := Option.some.inj h552
                              obtain rfl := Option.some.inj h
                              exact ⟨.inl rfl, by kernel_rfl, by kernel_rfl⟩
                            · refine Wc.condF h582 (by kernel_rfl) ?_
                              refine Wc.fix (st' := ⟨[(0, (.v (.sl (List.map GKept.c us)), [])), (1, (.v (.int .i64 u08), [])), (5, (.v (.int .i64 uy), []))], [], []⟩) [] [0, 1, 5] [] [] (by kernel_rfl) ?_
                              refine Wc.skip ?_
                              apply Wc.seq
                              apply Wc.seq
                              obtain ⟨u62, h583, h552⟩ := obind h552
                              refine Wc.region [{}, {}, { v := some (.vptr (GKept.q u62)) }] [] [0, 1, 5, 140] [] [] ⟨[(0, (.v (.sl (List.map GKept.c us)), [])), (1, (.v (.int .i64 u08), [])), (5, (.v (.int .i64 uy), [])), (140, (.v (.bool (u62.gCode.gVars != u08)), []))], [], []⟩ _ (by kernel_rfl) (.cons (at_obl (c := GKept.c) (GKept.c_eq u62) GKept.c_len h583) (.cons (len_ok 1 [.int .i64 u62.gCode.gVars, .int .i64 u62.gBorn, .int .i64 u62.gDied]) .nil)) ?_
                              rcases oif h552 with ⟨h584, h552⟩ | ⟨h584, h552⟩
                              · refine Wc.condT h584 (by kernel_rfl) ?_
                                apply Wc.seq
                                refine Wc.region [] [] [4] [] [] ⟨[(4, (.v (.int .i64 (-1)), []))], [], []⟩ _ (by kernel_rfl) .nil ?_
                                refine Wc.ret ?_
                                obtain rfl := Option.some.inj h552
                                obtain rfl := Option.some.inj h
                                exact ⟨.inl rfl, by kernel_rfl, by kernel_rfl⟩
                              · refine Wc.condF h584 (by kernel_rfl) ?_
                                refine Wc.fix (st' := ⟨[(0, (.v (.sl (List.map GKept.c us)), [])), (1, (.v (.int .i64 u08), [])), (5, (.v (.int .i64 uy), []))], [], []⟩) [] [0, 1, 5] [] [] (by kernel_rfl) ?_
                                refine Wc.skip ?_
                                apply Wc.seq
                                refine Wc.region [] [] [0, 1, 5] [] [] ⟨[(0, (.v (.sl (List.map GKept.c us)), [])), (1, (.v (.int .i64 (wr.i64 (u08 + 1))), [])), (5, (.v (.int .i64 uy), []))], [], []⟩ _ (by kernel_rfl) .nil ?_
                                apply Wc.seq
                                apply Wc.seq
                                obtain ⟨u6i, h585, h552⟩ := obind h552
                                refine Wc.region [{}, {}, { v := some (.vptr (GKept.q u6i)) }] [] [0, 1, 5, 149] [] [] ⟨[(0, (.v (.sl (List.map GKept.c us)), [])), (1, (.v (.int .i64 (wr.i64 (u08 + 1))), [])), (5, (.v (.int .i64 uy), [])), (149, (.v (.bool (u6i.gBorn != (wr.i64 (u08 + 1)))), []))], [], []⟩ _ (by kernel_rfl) (.cons (at_obl (c := GKept.c) (GKept.c_eq u6i) GKept.c_len h585) (.cons (len_ok 1 [.int .i64 u6i.gBorn, .int .i64 u6i.gDied]) .nil)) ?_
                                rcases oif h552 with ⟨h586, h552⟩ | ⟨h586, h552⟩
                                · refine Wc.condT h586 (by kernel_rfl) ?_
                                  apply Wc.seq
                                  refine Wc.region [] [] [4] [] [] ⟨[(4, (.v (.int .i64 (-1)), []))], [], []⟩ _ (by kernel_rfl) .nil ?_
                                  refine Wc.ret ?_
                                  obtain rfl := Option.some.inj h552
                                  obtain rfl := Option.some.inj h
                                  exact ⟨.inl rfl, by kernel_rfl, by kernel_rfl⟩
                                · refine Wc.condF h586 (by kernel_rfl) ?_
                                  refine Wc.fix (st' := ⟨[(0, (.v (.sl (List.map GKept.c us)), [])), (1, (.v (.int .i64 (wr.i64 (u08 + 1))), [])), (5, (.v (.int .i64 uy), []))], [], []⟩) [] [0, 1, 5] [] [] (by kernel_rfl) ?_
                                  refine Wc.skip ?_
                                  apply Wc.seq
                                  refine Wc.region [] [] [0, 1, 5] [] [] ⟨[(0, (.v (.sl (List.map GKept.c us)), [])), (1, (.v (.int .i64 (wr.i64 ((wr.i64 (u08 + 1)) + 1))), [])), (5, (.v (.int .i64 uy), []))], [], []⟩ _ (by kernel_rfl) .nil ?_
                                  apply Wc.seq
                                  apply Wc.seq
                                  obtain ⟨u8c, h587, h552⟩ := obind h552
                                  refine Wc.region [{}, {}, { v := some (.vptr (GKept.q u8c)) }] [] [0, 1, 5, 158] [] [] ⟨[(0, (.v (.sl (List.map GKept.c us)), [])), (1, (.v (.int .i64 (wr.i64 ((wr.i64 (u08 + 1)) + 1))), [])), (5, (.v (.int .i64 uy), [])), (158, (.v (.bool (u8c.gDied != (wr.i64 ((wr.i64 (u08 + 1)) + 1)))), []))], [], []⟩ _ (by kernel_rfl) (.cons (at_obl (c := GKept.c) (GKept.c_eq u8c) GKept.c_len h587) (.cons (len_ok 1 [.int .i64 u8c.gDied]) .nil)) ?_
                                  rcases oif h552 with ⟨h588, h552⟩ | ⟨h588, h552⟩
                                  · refine Wc.condT h588 (by kernel_rfl) ?_
                                    apply Wc.seq
                                    refine Wc.region [] [] [4] [] [] ⟨[(4, (.v (.int .i64 (-1)), []))], [], []⟩ _ (by kernel_rfl) .nil ?_
                                    refine Wc.ret ?_
                                    obtain rfl := Option.some.inj h552
                                    obtain rfl := Option.some.inj h
                                    exact ⟨.inl rfl, by kernel_rfl, by kernel_rfl⟩
                                  · refine Wc.condF h588 (by kernel_rfl) ?_
                                    refine Wc.fix (st' := ⟨[(0, (.v (.sl (List.map GKept.c us)), [])), (1, (.v (.int .i64 (wr.i64 ((wr.i64 (u08 + 1)) + 1))), [])), (5, (.v (.int .i64 uy), []))], [], []⟩) [] [0, 1, 5] [] [] (by kernel_rfl) ?_
                                    refine Wc.skip ?_
                                    refine Wc.region [] [] [0, 1, 5] [] [] ⟨[(0, (.v (.sl (List.map GKept.c us)), [])), (1, (.v (.int .i64 (wr.i64 ((wr.i64 ((wr.i64 (u08 + 1)) + 1)) + 1))), [])), (5, (.v (.int .i64 uy), []))], [], []⟩ _ (by kernel_rfl) .nil ?_
                                    refine Wc.region [] [] [0, 1, 5] [] [] ⟨[(0, (.v (.sl (List.map GKept.c us)), [])), (1, (.v (.int .i64 (wr.i64 ((wr.i64 ((wr.i64 (u08 + 1)) + 1)) + 1))), [])), (5, (.v (.int .i64 (wr.i64 (uy + 1))), []))], [], []⟩ _ (by kernel_rfl) .nil ?_
                                    exact ⟨_, Nat.lt_succ_self _, _, _, rfl, h552⟩
      · refine Wc.condF h553 (by kernel_rfl) ?_
        refine Wc.fix (st' := ⟨[(1, (.v (.int .i64 u0d), []))], [], []⟩) [] [1] [] [] (by kernel_rfl) ?_
        refine Wc.exit ?_
        obtain rfl := Option.some.inj h552
        exact ⟨_, rfl, rfl⟩
  · rintro st ⟨u8e, rfl, rfl⟩
    apply Wc.seq
    refine Wc.region [] [] [4] [] [] ⟨[(4, (.v (.int .i64 u8e), []))], [], []⟩ _ (by kernel_rfl) .nil ?_
    refine Wc.ret ?_
    obtain rfl := Option.some.inj h
    exact ⟨.inl rfl, by kernel_rfl, by kernel_rfl⟩

def plaws_heldStore (k : Nat) (u5f : GStore) (ua6 : Int) : Option Int :=
  (plaws_heldKeptS k u5f.gList ua6).bind fun u63 =>
  if (decide (u63 < 0)) = true then
    some (-1)
  else
    (plaws_heldStringS k u5f.gOpen u63).bind fun u5g =>
    if (decide (u5g < 0)) = true then
      some (-1)
    else
      some u5g
theorem claws_heldStore {k : Nat} {u5f : GStore} {ua6 : Int} {r : Int} (h : plaws_heldStore k u5f ua6 = some r) : FnO Try.prog 47 [.v (.agg (GStore.q u5f)) [], .v (.int .i64 ua6) []] (.v (.int .i64 r) []) [] := by
  refine FnO.of Try.func47 (rfl : Try.f47.body = some _) (Nat.le_of_ble_eq_true (by kernel_rfl)) (Nat.le_of_ble_eq_true (by kernel_rfl)) ?_
  intro w0 X0 Fin pv0 pb
  unfold plaws_heldStore at h
  apply Wc.seq
  refine Wc.region [] [] [1, 2] [2] [] ⟨[(1, (.v (.int .i64 ua6), [])), (2, (.ptr 2 0, []))], [(2, .cells (GStore.q u5f) [])], []⟩ _ (by kernel_rfl) .nil ?_
  apply Wc.seq
  obtain ⟨u63, h589, h⟩ := obind h
  refine Wc.region [{}, {}, {}, { r := some (.v (.int .i64 u63) []) }] [] [1, 2] [2] [] ⟨[(1, (.v (.int .i64 u63), [])), (2, (.ptr 2 0, []))], [(2, .cells (GStore.q u5f) [])], []⟩ _ (by kernel_rfl) (.cons (claws_heldKeptS h589) .nil) ?_
  apply Wc.seq
  apply Wc.seq
  refine Wc.region [] [] [1, 2, 10] [2] [] ⟨[(1, (.v (.int .i64 u63), [])), (2, (.ptr 2 0, [])), (10, (.v (.bool (decide (u63 < 0))), []))], [(2, .cells (GStore.q u5f) [])], []⟩ _ (by kernel_rfl) .nil ?_
  rcases oif h with ⟨h590, h⟩ | ⟨h590, h⟩
  · refine Wc.condT h590 (by kernel_rfl) ?_
    apply Wc.seq
    refine Wc.region [] [] [4] [] [] ⟨[(4, (.v (.int .i64 (-1)), []))], [], []⟩ _ (by kernel_rfl) .nil ?_
    refine Wc.ret ?_
    obtain rfl := Option.some.inj h
    exact ⟨.inl rfl, by kernel_rfl, by kernel_rfl⟩
  · refine Wc.condF h590 (by kernel_rfl) ?_
    refine Wc.fix (st' := ⟨[(1, (.v (.int .i64 u63), [])), (2, (.ptr 2 0, []))], [(2, .cells (GStore.q u5f) [])], []⟩) [] [1, 2] [2] [] (by kernel_rfl) ?_
    refine Wc.skip ?_
    apply Wc.seq
    obtain ⟨u5g, h591, h⟩ := obind h
    refine Wc.region [{}, {}, {}, { r := some (.v (.int .i64 u5g) []) }] [] [1] [] [] ⟨[(1, (.v (.int .i64 u5g), []))], [], []⟩ _ (by kernel_rfl) (.cons (claws_heldStringS h591) .nil) ?_
    apply Wc.seq
    apply Wc.seq
    refine Wc.region [] [] [1, 16] [] [] ⟨[(1, (.v (.int .i64 u5g), [])), (16, (.v (.bool (decide (u5g < 0))), []))], [], []⟩ _ (by kernel_rfl) .nil ?_
    rcases oif h with ⟨h592, h⟩ | ⟨h592, h⟩
    · refine Wc.condT h592 (by kernel_rfl) ?_
      apply Wc.seq
      refine Wc.region [] [] [4] [] [] ⟨[(4, (.v (.int .i64 (-1)), []))], [], []⟩ _ (by kernel_rfl) .nil ?_
      refine Wc.ret ?_
      obtain rfl := Option.some.inj h
      exact ⟨.inl rfl, by kernel_rfl, by kernel_rfl⟩
    · refine Wc.condF h592 (by kernel_rfl) ?_
      refine Wc.fix (st' := ⟨[(1, (.v (.int .i64 u5g), []))], [], []⟩) [] [1] [] [] (by kernel_rfl) ?_
      refine Wc.skip ?_
      apply Wc.seq
      refine Wc.region [] [] [4] [] [] ⟨[(4, (.v (.int .i64 u5g), []))], [], []⟩ _ (by kernel_rfl) .nil ?_
      refine Wc.ret ?_
      obtain rfl := Option.some.inj h
      exact ⟨.inl rfl, by kernel_rfl, by kernel_rfl⟩

def plaws_toTermS_d_L1 (k : Nat) (rlaws_toTerm_d : GTerm → Option GTerm) (rlaws_toTermS_d : (List GTerm) → Option (List GTerm)) (vx : List GTerm) : Nat → (List GTerm) → Int → Option (Out (List GTerm) (List GTerm))
  | 0, _, _ => none
  | m + 1, u3g, u0n =>
    if (decide (u0n < (vx.length : Int))) = true then
      (at' vx u0n).bind fun ua7 =>
      (rlaws_toTerm_d ua7).bind fun u5h =>
      (at' u3g u0n).bind fun ul =>
      plaws_toTermS_d_L1 k rlaws_toTerm_d rlaws_toTermS_d vx m (u3g.set ((u0n).toNat) u5h) (wr.i64 (u0n + 1))
    else
      some (.done u3g)
mutual
def plaws_toTerm_d : Nat → GTerm → Option GTerm
  | 0, _ => none
  | k + 1, vy =>
    (plaws_toTermS_d k vy.gKids).bind fun ua8 =>
    some (GTerm.mk vy.gKind vy.gName vy.gNum ua8)
def plaws_toTermS_d : Nat → (List GTerm) → Option (List GTerm)
  | 0, _ => none
  | k + 1, vx =>
    if 0 ≤ (vx.length : Int) ∧ (vx.length : Int) ≤ 1073741824 then
      (plaws_toTermS_d_L1 k (plaws_toTerm_d k) (plaws_toTermS_d k) vx k (List.replicate ((vx.length : Int)).toNat (GTerm.mk 0 (bs []) 0 [])) 0).bind fun out1 => match out1 with
      | .ret r => some r
      | .done u8f =>
        some u8f
    else none
end
theorem all_plaws_toTerm_d : ∀ k : Nat, (∀ {vy : GTerm} {r : GTerm}, plaws_toTerm_d k vy = some r → FnO Try.prog 36 [.v (.agg (GTerm.q vy)) []] (.v (.agg (GTerm.qx r)) [(3, .ex 42 true (List.map GTerm.c r.gKids))]) []) ∧
    (∀ {vx : List GTerm} {r : (List GTerm)}, plaws_toTermS_d k vx = some r → FnO Try.prog 90 [.v (.sl (List.map GTerm.c vx)) []] (.v (.slx) [(0, .ex 42 true (List.map GTerm.c r))]) []) := by
  intro k
  induction k with
  | zero =>
    refine ⟨?_, ?_⟩
    · intro vy r h
      exact (onone (by rw [plaws_toTerm_d] at h; exact h)).elim
    · intro vx r h
      exact (onone (by rw [plaws_toTermS_d] at h; exact h)).elim
  | succ k ih =>
    obtain ⟨ih_plaws_toTerm_d, ih_plaws_toTermS_d⟩ := ih
    refine ⟨?_, ?_⟩
    · intro vy r h
      rw [plaws_toTerm_d] at h
      refine FnO.of Try.func36 (rfl : Try.f36.body = some _) (Nat.le_of_ble_eq_true (by kernel_rfl)) (Nat.le_of_ble_eq_true (by kernel_rfl)) ?_
      intro w0 X0 Fin pv0 pb
      apply Wc.seq
      refine Wc.region [] [] [1, 2] [1, 2] [] ⟨[(1, (.ptr 1 0, [])), (2, (.ptr 2 0, []))], [(1, .cells (GTerm.q vy) []), (2, .cells [.int .i64 0, .str (bs []), .int .i64 0, .sl (List.map GTerm.c [])] [(3, .app 42)])], []⟩ _ (by kernel_rfl) .nil ?_
      apply Wc.seq
      refine Wc.region [] [] [1, 2, 3] [1, 2, 3] [] ⟨[(1, (.ptr 1 0, [])), (2, (.ptr 2 0, [])), (3, (.ptr 3 0, []))], [(1, .cells (GTerm.q vy) []), (2, .cells [.int .i64 0, .str (bs []), .int .i64 0, .sl (List.map GTerm.c [])] [(3, .app 42)]), (3, .cells [.int .i64 0, .str (bs []), .int .i64 0, .sl (List.map GTerm.c [])] [(3, .app 42)])], []⟩ _ (by kernel_rfl) .nil ?_
      apply Wc.seq
      refine Wc.region [] [] [1, 2, 3] [1, 2, 3] [] ⟨[(1, (.ptr 1 0, [])), (2, (.ptr 2 0, [])), (3, (.ptr 3 0, []))], [(1, .cells (GTerm.q vy) []), (2, .cells [.int .i64 0, .str (bs []), .int .i64 0, .sl (List.map GTerm.c [])] [(3, .app 42)]), (3, .cells [.int .i64 vy.gKind, .str (bs []), .int .i64 0, .sl (List.map GTerm.c [])] [(3, .app 42)])], []⟩ _ (by kernel_rfl) .nil ?_
      apply Wc.seq
      refine Wc.region [] [] [1, 2, 3] [1, 2, 3] [] ⟨[(1, (.ptr 1 0, [])), (2, (.ptr 2 0, [])), (3, (.ptr 3 0, []))], [(1, .cells (GTerm.q vy) []), (2, .cells [.int .i64 0, .str (bs []), .int .i64 0, .sl (List.map GTerm.c [])] [(3, .app 42)]), (3, .cells [.int .i64 vy.gKind, .str vy.gName, .int .i64 0, .sl (List.map GTerm.c [])] [(3, .app 42)])], []⟩ _ (by kernel_rfl) .nil ?_
      apply Wc.seq
      refine Wc.region [] [] [1, 2, 3] [1, 2, 3] [] ⟨[(1, (.ptr 1 0, [])), (2, (.ptr 2 0, [])), (3, (.ptr 3 0, []))], [(1, .cells (GTerm.q vy) []), (2, .cells [.int .i64 0, .str (bs []), .int .i64 0, .sl (List.map GTerm.c [])] [(3, .app 42)]), (3, .cells [.int .i64 vy.gKind, .str vy.gName, .int .i64 vy.gNum, .sl (List.map GTerm.c [])] [(3, .app 42)])], []⟩ _ (by kernel_rfl) .nil ?_
      apply Wc.seq
      obtain ⟨ua8, h600, h⟩ := obind h
      refine Wc.region [{}, {}, { r := some (.v (.slx) [(0, .ex 42 true (List.map GTerm.c ua8))]) }, {}, { tk := [15] }] [] [2, 3] [2, 3] [] ⟨[(2, (.ptr 2 0, [])), (3, (.ptr 3 0, []))], [(2, .cells [.int .i64 0, .str (bs []), .int .i64 0, .sl (List.map GTerm.c [])] [(3, .app 42)]), (3, .cells (GTerm.qx vy) [(3, .ex 42 true (List.map GTerm.c ua8))])], []⟩ _ (by kernel_rfl) (.cons (ih_plaws_toTermS_d h600) .nil) ?_
      apply Wc.seq
      refine Wc.region [{ md := 1 }, { tk := [17] }] [] [2] [2] [] ⟨[(2, (.ptr 2 0, []))], [(2, .cells (GTerm.qx vy) [(3, .ex 42 true (List.map GTerm.c ua8))])], []⟩ _ (by kernel_rfl) .nil ?_
      refine Wc.ret ?_
      obtain rfl := Option.some.inj h
      exact ⟨.inl rfl, by kernel_rfl, by kernel_rfl⟩
    · intro vx r h
      rw [plaws_toTermS_d] at h
      refine FnO.of Try.func90 (rfl : Try.f90.body = some _) (Nat.le_of_ble_eq_true (by kernel_rfl)) (Nat.le_of_ble_eq_true (by kernel_rfl)) ?_
      intro w0 X0 Fin pv0 pb
      apply Wc.seq
      refine Wc.region [] [] [0] [] [] ⟨[(0, (.v (.sl (List.map GTerm.c vx)), []))], [], []⟩ _ (by kernel_rfl) .nil ?_
      apply Wc.seq
      obtain ⟨h601, h⟩ := oguard h
      refine Wc.region [{}, { v := some (.int .i64 (vx.length : Int)) }, { c := some (List.map GTerm.c (List.replicate ((vx.length : Int)).toNat (GTerm.mk 0 (bs []) 0 []))) }, { tk := [7] }] [] [0, 3] [] [] ⟨[(0, (.v (.sl (List.map GTerm.c vx)), [])), (3, (.v (.slx), [(0, .ex 42 true (List.map GTerm.c (List.replicate ((vx.length : Int)).toNat (GTerm.mk 0 (bs []) 0 []))))]))], [], []⟩ _ (by kernel_rfl) (.cons (len_obl GTerm.c vx) (.cons (rep_re (c := GTerm.c) (z := (GTerm.mk 0 (bs []) 0 [])) (GTerm.c_eq (GTerm.mk 0 (bs []) 0 [])) ((vx.length : Int)).toNat) (.cons (ms_obl h601) .nil))) ?_
      apply Wc.seq
      apply Wc.seq
      refine Wc.region [] [] [0, 3, 4] [] [] ⟨[(0, (.v (.sl (List.map GTerm.c vx)), [])), (3, (.v (.slx), [(0, .ex 42 true (List.map GTerm.c (List.replicate ((vx.length : Int)).toNat (GTerm.mk 0 (bs []) 0 []))))])), (4, (.v (.int .i64 0), []))], [], []⟩ _ (by kernel_rfl) .nil ?_
      obtain ⟨out1, h602, h⟩ := obind h
      refine Wc.lastJ (fun st => ∃ (u8f : List GTerm), out1 = .done u8f ∧ st = ⟨[(3, (.v (.slx), [(0, .ex 42 true (List.map GTerm.c u8f))]))], [], []⟩) ?_ ?_
      · refine Wc.block ?_
        refine Wc.loop (fun m st => ∃ (u3g : List GTerm) (u0n : Int), st = ⟨[(0, (.v (.sl (List.map GTerm.c vx)), [])), (3, (.v (.slx), [(0, .ex 42 true (List.map GTerm.c u3g))])), (4, (.v (.int .i64 u0n), []))], [], []⟩ ∧ plaws_toTermS_d_L1 k (plaws_toTerm_d k) (plaws_toTermS_d k) vx m u3g u0n = some out1) ?_ k ⟨_, _, rfl, h602⟩
        rintro m st ⟨u3g, u0n, rfl, h602⟩
        cases m with
        | zero => exact (onone h602).elim
        | succ m =>
          apply Wc.seq
          apply Wc.seq
          refine Wc.region [{}, {}, { v := some (.int .i64 (vx.length : Int)) }] [] [0, 3, 4, 11] [] [] ⟨[(0, (.v (.sl (List.map GTerm.c vx)), [])), (3, (.v (.slx), [(0, .ex 42 true (List.map GTerm.c u3g))])), (4, (.v (.int .i64 u0n), [])), (11, (.v (.bool (decide (u0n < (vx.length : Int)))), []))], [], []⟩ _ (by kernel_rfl) (.cons (len_obl GTerm.c vx) .nil) ?_
          rcases oif h602 with ⟨h603, h602⟩ | ⟨h603, h602⟩
          · refine Wc.condT h603 (by kernel_rfl) ?_
            refine Wc.fix (st' := ⟨[(0, (.v (.sl (List.map GTerm.c vx)), [])), (3, (.v (.slx), [(0, .ex 42 true (List.map GTerm.c u3g))])), (4, (.v (.int .i64 u0n), []))], [], []⟩) [] [0, 3, 4] [] [] (by kernel_rfl) ?_
            refine Wc.skip ?_
            apply Wc.seq
            refine Wc.block ?_
            obtain ⟨ua7, h604, h602⟩ := obind h602
            obtain ⟨u5h, h605, h602⟩ := obind h602
            obtain ⟨ul, h606, h602⟩ := obind h602
            refine Wc.region [{}, {}, {}, {}, { v := some (.vptr (GTerm.q ua7)) }, {}, { r := some (.v (.agg (GTerm.qx u5h)) [(3, .ex 42 true (List.map GTerm.c u5h.gKids))]) }, {}, { c := some (List.map GTerm.c (u3g.set ((u0n).toNat) u5h)), tk := [20] }] [] [0, 3, 4] [] [] ⟨[(0, (.v (.sl (List.map GTerm.c vx)), [])), (3, (.v (.slx), [(0, .ex 42 true (List.map GTerm.c (u3g.set ((u0n).toNat) u5h)))])), (4, (.v (.int .i64 u0n), []))], [], []⟩ _ (by kernel_rfl) (.cons (at_obl (c := GTerm.c) (GTerm.c_eq ua7) GTerm.c_len h604) (.cons (len_ok 4 (GTerm.q ua7)) (.cons (ih_plaws_toTerm_d h605) (.cons (ix_obl (c := GTerm.c) GTerm.c_len h606) (.cons (mod_obl (off := 0) (new := (GTerm.q u5h)) (c := GTerm.c) (GTerm.c_eq ul) (GTerm.c_eq u5h) (at'_spec h606).2 rfl) (.cons (st_obl (sz := 4) (off := 0) (s := 4) (c := GTerm.c) (GTerm.c_eq ul) (at'_spec h606).2 rfl (Nat.le_of_ble_eq_true rfl)) .nil)))))) ?_
            refine Wc.region [] [] [0, 3, 4] [] [] ⟨[(0, (.v (.sl (List.map GTerm.c vx)), [])), (3, (.v (.slx), [(0, .ex 42 true (List.map GTerm.c (u3g.set ((u0n).toNat) u5h)))])), (4, (.v (.int .i64 (wr.i64 (u0n + 1))), []))], [], []⟩ _ (by kernel_rfl) .nil ?_
            exact ⟨_, Nat.lt_succ_self _, _, _, rfl, h602⟩
          · refine Wc.condF h603 (by kernel_rfl) ?_
            refine Wc.fix (st' := ⟨[(3, (.v (.slx), [(0, .ex 42 true (List.map GTerm.c u3g))]))], [], []⟩) [] [3] [] [] (by kernel_rfl) ?_
            refine Wc.exit ?_
            obtain rfl := Option.some.inj h602
            exact ⟨_, rfl, rfl⟩
      · rintro st ⟨u8f, rfl, rfl⟩
        apply Wc.seq
        refine Wc.region [{ tk := [3] }, { tk := [22] }] [] [2] [] [] ⟨[(2, (.v (.slx), [(0, .ex 42 true (List.map GTerm.c u8f))]))], [], []⟩ _ (by kernel_rfl) .nil ?_
        refine Wc.ret ?_
        obtain rfl := Option.some.inj h
        exact ⟨.inl rfl, by kernel_rfl, by kernel_rfl⟩
theorem claws_toTerm_d {k : Nat} {vy : GTerm} {r : GTerm} (h : plaws_toTerm_d k vy = some r) : FnO Try.prog 36 [.v (.agg (GTerm.q vy)) []] (.v (.agg (GTerm.qx r)) [(3, .ex 42 true (List.map GTerm.c r.gKids))]) [] := (all_plaws_toTerm_d k).1 h
theorem claws_toTermS_d {k : Nat} {vx : List GTerm} {r : (List GTerm)} (h : plaws_toTermS_d k vx = some r) : FnO Try.prog 90 [.v (.sl (List.map GTerm.c vx)) []] (.v (.slx) [(0, .ex 42 true (List.map GTerm.c r))]) [] := (all_plaws_toTerm_d k).2 h

def plaws_toClause_d (k : Nat) (u41 : GClause) : Option GClause :=
  (plaws_toTerm_d k u41.gHead).bind fun u11 =>
  (plaws_toTerm_d k u41.gBody).bind fun u06 =>
  some (GClause.mk u11 u06 u41.gFile)
theorem claws_toClause_d {k : Nat} {u41 : GClause} {r : GClause} (h : plaws_toClause_d k u41 = some r) : FnO Try.prog 27 [.v (.agg (GClause.q u41)) []] (.v (.agg (GClause.qx r)) [(3, .ex 42 true (List.map GTerm.c r.gHead.gKids)), (7, .ex 42 true (List.map GTerm.c r.gBody.gKids))]) [] := by
  refine FnO.of Try.func27 (rfl : Try.f27.body = some _) (Nat.le_of_ble_eq_true (by kernel_rfl)) (Nat.le_of_ble_eq_true (by kernel_rfl)) ?_
  intro w0 X0 Fin pv0 pb
  unfold plaws_toClause_d at h
  apply Wc.seq
  refine Wc.region [] [] [1, 2] [1, 2] [] ⟨[(1, (.ptr 1 0, [])), (2, (.ptr 2 0, []))], [(1, .cells (GClause.q u41) []), (2, .cells [.int .i64 0, .str (bs []), .int .i64 0, .sl (List.map GTerm.c []), .int .i64 0, .str (bs []), .int .i64 0, .sl (List.map GTerm.c []), .str (bs [])] [(3, .app 42), (7, .app 42)])], []⟩ _ (by kernel_rfl) .nil ?_
  apply Wc.seq
  refine Wc.region [] [] [1, 2, 3] [1, 2, 3] [] ⟨[(1, (.ptr 1 0, [])), (2, (.ptr 2 0, [])), (3, (.ptr 3 0, []))], [(1, .cells (GClause.q u41) []), (2, .cells [.int .i64 0, .str (bs []), .int .i64 0, .sl (List.map GTerm.c []), .int .i64 0, .str (bs []), .int .i64 0, .sl (List.map GTerm.c []), .str (bs [])] [(3, .app 42), (7, .app 42)]), (3, .cells [.int .i64 0, .str (bs []), .int .i64 0, .sl (List.map GTerm.c []), .int .i64 0, .str (bs []), .int .i64 0, .sl (List.map GTerm.c []), .str (bs [])] [(3, .app 42), (7, .app 42)])], []⟩ _ (by kernel_rfl) .nil ?_
  apply Wc.seq
  obtain ⟨u11, h598, h⟩ := obind h
  refine Wc.region [{}, {}, { r := some (.v (.agg (GTerm.qx u11)) [(3, .ex 42 true (List.map GTerm.c u11.gKids))]) }, {}, { tk := [6] }] [.so 3] [1, 2, 3] [1, 2, 3] [] ⟨[(1, (.ptr 1 0, [])), (2, (.ptr 2 0, [])), (3, (.ptr 3 0, []))], [(1, .cells (GClause.q u41) []), (2, .cells [.int .i64 0, .str (bs []), .int .i64 0, .sl (List.map GTerm.c []), .int .i64 0, .str (bs []), .int .i64 0, .sl (List.map GTerm.c []), .str (bs [])] [(3, .app 42), (7, .app 42)]), (3, .cells [.int .i64 u11.gKind, .str u11.gName, .int .i64 u11.gNum, .slx, .int .i64 0, .str (bs []), .int .i64 0, .sl (List.map GTerm.c []), .str (bs [])] [(3, .ex 42 true (List.map GTerm.c u11.gKids)), (7, .app 42)])], []⟩ _ (by kernel_rfl) (.cons (claws_toTerm_d h598) .nil) ?_
  apply Wc.seq
  obtain ⟨u06, h599, h⟩ := obind h
  refine Wc.region [{}, {}, { r := some (.v (.agg (GTerm.qx u06)) [(3, .ex 42 true (List.map GTerm.c u06.gKids))]) }, {}, { tk := [10] }] [] [1, 2, 3] [1, 2, 3] [] ⟨[(1, (.ptr 1 0, [])), (2, (.ptr 2 0, [])), (3, (.ptr 3 0, []))], [(1, .cells (GClause.q u41) []), (2, .cells [.int .i64 0, .str (bs []), .int .i64 0, .sl (List.map GTerm.c []), .int .i64 0, .str (bs []), .int .i64 0, .sl (List.map GTerm.c []), .str (bs [])] [(3, .app 42), (7, .app 42)]), (3, .cells [.int .i64 u11.gKind, .str u11.gName, .int .i64 u11.gNum, .slx, .int .i64 u06.gKind, .str u06.gName, .int .i64 u06.gNum, .slx, .str (bs [])] [(3, .ex 42 true (List.map GTerm.c u11.gKids)), (7, .ex 42 true (List.map GTerm.c u06.gKids))])], []⟩ _ (by kernel_rfl) (.cons (claws_toTerm_d h599) .nil) ?_
  apply Wc.seq
  refine Wc.region [] [] [2, 3] [2, 3] [] ⟨[(2, (.ptr 2 0, [])), (3, (.ptr 3 0, []))], [(2, .cells [.int .i64 0, .str (bs []), .int .i64 0, .sl (List.map GTerm.c []), .int .i64 0, .str (bs []), .int .i64 0, .sl (List.map GTerm.c []), .str (bs [])] [(3, .app 42), (7, .app 42)]), (3, .cells [.int .i64 u11.gKind, .str u11.gName, .int .i64 u11.gNum, .slx, .int .i64 u06.gKind, .str u06.gName, .int .i64 u06.gNum, .slx, .str u41.gFile] [(3, .ex 42 true (List.map GTerm.c u11.gKids)), (7, .ex 42 true (List.map GTerm.c u06.gKids))])], []⟩ _ (by kernel_rfl) .nil ?_
  apply Wc.seq
  refine Wc.region [{ md := 1 }, { tk := [15] }] [] [2] [2] [] ⟨[(2, (.ptr 2 0, []))], [(2, .cells [.int .i64 u11.gKind, .str u11.gName, .int .i64 u11.gNum, .slx, .int .i64 u06.gKind, .str u06.gName, .int .i64 u06.gNum, .slx, .str u41.gFile] [(3, .ex 42 true (List.map GTerm.c u11.gKids)), (7, .ex 42 true (List.map GTerm.c u06.gKids))])], []⟩ _ (by kernel_rfl) .nil ?_
  refine Wc.ret ?_
  obtain rfl := Option.some.inj h
  exact ⟨.inl rfl, by kernel_rfl, by kernel_rfl⟩

def plaws_toClauseS_d_L1 (k : Nat) (zm : List GClause) : Nat → (List GClause) → Int → Option (Out (List GClause) (List GClause))
  | 0, _, _ => none
  | m + 1, u3h, u1s =>
    if (decide (u1s < (zm.length : Int))) = true then
      (at' zm u1s).bind fun ua9 =>
      (plaws_toClause_d k ua9).bind fun u4o =>
      (at' u3h u1s).bind fun uc5 =>
      plaws_toClauseS_d_L1 k zm m (u3h.set ((u1s).toNat) u4o) (wr.i64 (u1s + 1))
    else
      some (.done u3h)
def plaws_toClauseS_d (k : Nat) (zm : List GClause) : Option (List GClause) :=
  if 0 ≤ (zm.length : Int) ∧ (zm.length : Int) ≤ 1073741824 then
    (plaws_toClauseS_d_L1 k zm k (List.replicate ((zm.length : Int)).toNat (GClause.mk (GTerm.mk 0 (bs []) 0 []) (GTerm.mk 0 (bs []) 0 []) (bs []))) 0).bind fun out1 => match out1 with
    | .ret r => some r
    | .done u8g =>
      some u8g
  else none
theorem claws_toClauseS_d {k : Nat} {zm : List GClause} {r : (List GClause)} (h : plaws_toClauseS_d k zm = some r) : FnO Try.prog 52 [.v (.sl (List.map GClause.c zm)) []] (.v (.slx) [(0, .ex 66 true (List.map GClause.c r))]) [] := by
  refine FnO.of Try.func52 (rfl : Try.f52.body = some _) (Nat.le_of_ble_eq_true (by kernel_rfl)) (Nat.le_of_ble_eq_true (by kernel_rfl)) ?_
  intro w0 X0 Fin pv0 pb
  unfold plaws_toClauseS_d at h
  apply Wc.seq
  refine Wc.region [] [] [0] [] [] ⟨[(0, (.v (.sl (List.map GClause.c zm)), []))], [], []⟩ _ (by kernel_rfl) .nil ?_
  apply Wc.seq
  obtain ⟨h599, h⟩ := oguard h
  refine Wc.region [{}, { v := some (.int .i64 (zm.length : Int)) }, { c := some (List.map GClause.c (List.replicate ((zm.length : Int)).toNat (GClause.mk (GTerm.mk 0 (bs []) 0 []) (GTerm.mk 0 (bs []) 0 []) (bs [])))) }, { tk := [7] }] [] [0, 3] [] [] ⟨[(0, (.v (.sl (List.map GClause.c zm)), [])), (3, (.v (.slx), [(0, .ex 66 true (List.map GClause.c (List.replicate ((zm.length : Int)).toNat (GClause.mk (GTerm.mk 0 (bs []) 0 []) (GTerm.mk 0 (bs []) 0 []) (bs [])))))]))], [], []⟩ _ (by kernel_rfl) (.cons (len_obl GClause.c zm) (.cons (rep_re (c := GClause.c) (z := (GClause.mk (GTerm.mk 0 (bs []) 0 []) (GTerm.mk 0 (bs []) 0 []) (bs []))) (GClause.c_eq (GClause.mk (GTerm.mk 0 (bs []) 0 []) (GTerm.mk 0 (bs []) 0 []) (bs []))) ((zm.length : Int)).toNat) (.cons (ms_obl h599) .nil))) ?_
  apply Wc.seq
  apply Wc.seq
  refine Wc.region [] [] [0, 3, 4] [] [] ⟨[(0, (.v (.sl (List.map GClause.c zm)), [])), (3, (.v (.slx), [(0, .ex 66 true (List.map GClause.c (List.replicate ((zm.length : Int)).toNat (GClause.mk (GTerm.mk 0 (bs []) 0 []) (GTerm.mk 0 (bs []) 0 []) (bs [])))))])), (4, (.v (.int .i64 0), []))], [], []⟩ _ (by kernel_rfl) .nil ?_
  obtain ⟨out1, h600, h⟩ := obind h
  refine Wc.lastJ (fun st => ∃ (u8g : List GClause), out1 = .done u8g ∧ st = ⟨[(3, (.v (.slx), [(0, .ex 66 true (List.map GClause.c u8g))]))], [], []⟩) ?_ ?_
  · refine Wc.block ?_
    refine Wc.loop (fun m st => ∃ (u3h : List GClause) (u1s : Int), st = ⟨[(0, (.v (.sl (List.map GClause.c zm)), [])), (3, (.v (.slx), [(0, .ex 66 true (List.map GClause.c u3h))])), (4, (.v (.int .i64 u1s), []))], [], []⟩ ∧ plaws_toClauseS_d_L1 k zm m u3h u1s = some out1) ?_ k ⟨_, _, rfl, h600⟩
    rintro m st ⟨u3h, u1s, rfl, h600⟩
    cases m with
    | zero => exact (onone h600).elim
    | succ m =>
      apply Wc.seq
      apply Wc.seq
      refine Wc.region [{}, {}, { v := some (.int .i64 (zm.length : Int)) }] [] [0, 3, 4, 11] [] [] ⟨[(0, (.v (.sl (List.map GClause.c zm)), [])), (3, (.v (.slx), [(0, .ex 66 true (List.map GClause.c u3h))])), (4, (.v (.int .i64 u1s), [])), (11, (.v (.bool (decide (u1s < (zm.length : Int)))), []))], [], []⟩ _ (by kernel_rfl) (.cons (len_obl GClause.c zm) .nil) ?_
      rcases oif h600 with ⟨h601, h600⟩ | ⟨h601, h600⟩
      · refine Wc.condT h601 (by kernel_rfl) ?_
        refine Wc.fix (st' := ⟨[(0, (.v (.sl (List.map GClause.c zm)), [])), (3, (.v (.slx), [(0, .ex 66 true (List.map GClause.c u3h))])), (4, (.v (.int .i64 u1s), []))], [], []⟩) [] [0, 3, 4] [] [] (by kernel_rfl) ?_
        refine Wc.skip ?_
        apply Wc.seq
        refine Wc.block ?_
        obtain ⟨ua9, h602, h600⟩ := obind h600
        obtain ⟨u4o, h603, h600⟩ := obind h600
        obtain ⟨uc5, h604, h600⟩ := obind h600
        refine Wc.region [{}, {}, {}, {}, { v := some (.vptr (GClause.q ua9)) }, {}, { r := some (.v (.agg (GClause.qx u4o)) [(3, .ex 42 true (List.map GTerm.c u4o.gHead.gKids)), (7, .ex 42 true (List.map GTerm.c u4o.gBody.gKids))]) }, {}, { c := some (List.map GClause.c (u3h.set ((u1s).toNat) u4o)), tk := [20] }] [] [0, 3, 4] [] [] ⟨[(0, (.v (.sl (List.map GClause.c zm)), [])), (3, (.v (.slx), [(0, .ex 66 true (List.map GClause.c (u3h.set ((u1s).toNat) u4o)))])), (4, (.v (.int .i64 u1s), []))], [], []⟩ _ (by kernel_rfl) (.cons (at_obl (c := GClause.c) (GClause.c_eq ua9) GClause.c_len h602) (.cons (len_ok 9 (GClause.q ua9)) (.cons (claws_toClause_d h603) (.cons (ix_obl (c := GClause.c) GClause.c_len h604) (.cons (mod_obl (off := 0) (new := (GClause.q u4o)) (c := GClause.c) (GClause.c_eq uc5) (GClause.c_eq u4o) (at'_spec h604).2 rfl) (.cons (st_obl (sz := 9) (off := 0) (s := 9) (c := GClause.c) (GClause.c_eq uc5) (at'_spec h604).2 rfl (Nat.le_of_ble_eq_true rfl)) .nil)))))) ?_
        refine Wc.region [] [] [0, 3, 4] [] [] ⟨[(0, (.v (.sl (List.map GClause.c zm)), [])), (3, (.v (.slx), [(0, .ex 66 true (List.map GClause.c (u3h.set ((u1s).toNat) u4o)))])), (4, (.v (.int .i64 (wr.i64 (u1s + 1))), []))], [], []⟩ _ (by kernel_rfl) .nil ?_
        exact ⟨_, Nat.lt_succ_self _, _, _, rfl, h600⟩
      · refine Wc.condF h601 (by kernel_rfl) ?_
        refine Wc.fix (st' := ⟨[(3, (.v (.slx), [(0, .ex 66 true (List.map GClause.c u3h))]))], [], []⟩) [] [3] [] [] (by kernel_rfl) ?_
        refine Wc.exit ?_
        obtain rfl := Option.some.inj h600
        exact ⟨_, rfl, rfl⟩
  · rintro st ⟨u8g, rfl, rfl⟩
    apply Wc.seq
    refine Wc.region [{ tk := [3] }, { tk := [22] }] [] [2] [] [] ⟨[(2, (.v (.slx), [(0, .ex 66 true (List.map GClause.c u8g))]))], [], []⟩ _ (by kernel_rfl) .nil ?_
    refine Wc.ret ?_
    obtain rfl := Option.some.inj h
    exact ⟨.inl rfl, by kernel_rfl, by kernel_rfl⟩

def plaws_toStringS_d_L1 (k : Nat) (zn : List ByteArray) : Nat → (List ByteArray) → Int → Option (Out (List ByteArray) (List ByteArray))
  | 0, _, _ => none
  | m + 1, u3i, u1t =>
    if (decide (u1t < (zn.length : Int))) = true then
      (at' zn u1t).bind fun u64 =>
      (at' u3i u1t).bind fun uca =>
      plaws_toStringS_d_L1 k zn m (u3i.set ((u1t).toNat) u64) (wr.i64 (u1t + 1))
    else
      some (.done u3i)
def plaws_toStringS_d (k : Nat) (zn : List ByteArray) : Option (List ByteArray) :=
  if 0 ≤ (zn.length : Int) ∧ (zn.length : Int) ≤ 1073741824 then
    (plaws_toStringS_d_L1 k zn k (List.replicate ((zn.length : Int)).toNat (bs [])) 0).bind fun out1 => match out1 with
    | .ret r => some r
    | .done u8h =>
      some u8h
  else none
theorem claws_toStringS_d {k : Nat} {zn : List ByteArray} {r : (List ByteArray)} (h : plaws_toStringS_d k zn = some r) : FnO Try.prog 53 [.v (.sl (List.map cS zn)) []] (.v (.slx) [(0, .ex 9 true (List.map cS r))]) [] := by
  refine FnO.of Try.func53 (rfl : Try.f53.body = some _) (Nat.le_of_ble_eq_true (by kernel_rfl)) (Nat.le_of_ble_eq_true (by kernel_rfl)) ?_
  intro w0 X0 Fin pv0 pb
  unfold plaws_toStringS_d at h
  apply Wc.seq
  refine Wc.region [] [] [0] [] [] ⟨[(0, (.v (.sl (List.map cS zn)), []))], [], []⟩ _ (by kernel_rfl) .nil ?_
  apply Wc.seq
  obtain ⟨h611, h⟩ := oguard h
  refine Wc.region [{}, { v := some (.int .i64 (zn.length : Int)) }, { c := some (List.map cS (List.replicate ((zn.length : Int)).toNat (bs []))) }, { tk := [7] }] [] [0, 3] [] [] ⟨[(0, (.v (.sl (List.map cS zn)), [])), (3, (.v (.slx), [(0, .ex 9 true (List.map cS (List.replicate ((zn.length : Int)).toNat (bs []))))]))], [], []⟩ _ (by kernel_rfl) (.cons (len_obl cS zn) (.cons (rep_re (c := cS) (z := (bs [])) rfl ((zn.length : Int)).toNat) (.cons (ms_obl h611) .nil))) ?_
  apply Wc.seq
  apply Wc.seq
  refine Wc.region [] [] [0, 3, 4] [] [] ⟨[(0, (.v (.sl (List.map cS zn)), [])), (3, (.v (.slx), [(0, .ex 9 true (List.map cS (List.replicate ((zn.length : Int)).toNat (bs []))))])), (4, (.v (.int .i64 0), []))], [], []⟩ _ (by kernel_rfl) .nil ?_
  obtain ⟨out1, h612, h⟩ := obind h
  refine Wc.lastJ (fun st => ∃ (u8h : List ByteArray), out1 = .done u8h ∧ st = ⟨[(3, (.v (.slx), [(0, .ex 9 true (List.map cS u8h))]))], [], []⟩) ?_ ?_
  · refine Wc.block ?_
    refine Wc.loop (fun m st => ∃ (u3i : List ByteArray) (u1t : Int), st = ⟨[(0, (.v (.sl (List.map cS zn)), [])), (3, (.v (.slx), [(0, .ex 9 true (List.map cS u3i))])), (4, (.v (.int .i64 u1t), []))], [], []⟩ ∧ plaws_toStringS_d_L1 k zn m u3i u1t = some out1) ?_ k ⟨_, _, rfl, h612⟩
    rintro m st ⟨u3i, u1t, rfl, h612⟩
    cases m with
    | zero => exact (onone h612).elim
    | succ m =>
      apply Wc.seq
      apply Wc.seq
      refine Wc.region [{}, {}, { v := some (.int .i64 (zn.length : Int)) }] [] [0, 3, 4, 11] [] [] ⟨[(0, (.v (.sl (List.map cS zn)), [])), (3, (.v (.slx), [(0, .ex 9 true (List.map cS u3i))])), (4, (.v (.int .i64 u1t), [])), (11, (.v (.bool (decide (u1t < (zn.length : Int)))), []))], [], []⟩ _ (by kernel_rfl) (.cons (len_obl cS zn) .nil) ?_
      rcases oif h612 with ⟨h613, h612⟩ | ⟨h613, h612⟩
      · refine Wc.condT h613 (by kernel_rfl) ?_
        refine Wc.fix (st' := ⟨[(0, (.v (.sl (List.map cS zn)), [])), (3, (.v (.slx), [(0, .ex 9 true (List.map cS u3i))])), (4, (.v (.int .i64 u1t), []))], [], []⟩) [] [0, 3, 4] [] [] (by kernel_rfl) ?_
        refine Wc.skip ?_
        apply Wc.seq
        refine Wc.block ?_
        obtain ⟨u64, h614, h612⟩ := obind h612
        obtain ⟨uca, h615, h612⟩ := obind h612
        refine Wc.region [{}, {}, {}, {}, { v := some (.vptr [.str u64]) }, {}, {}, { c := some (List.map cS (u3i.set ((u1t).toNat) u64)) }] [] [0, 3, 4] [] [] ⟨[(0, (.v (.sl (List.map cS zn)), [])), (3, (.v (.slx), [(0, .ex 9 true (List.map cS (u3i.set ((u1t).toNat) u64)))])), (4, (.v (.int .i64 u1t), []))], [], []⟩ _ (by kernel_rfl) (.cons (at_obl (c := cS) rfl cS_len h614) (.cons (len_ok 1 [.str u64]) (.cons (ix_obl (c := cS) cS_len h615) (.cons (mod_obl (off := 0) (new := [.str u64]) (c := cS) rfl rfl (at'_spec h615).2 rfl) (.cons (st_obl (sz := 1) (off := 0) (s := 1) (c := cS) rfl (at'_spec h615).2 rfl (Nat.le_of_ble_eq_true rfl)) .nil))))) ?_
        refine Wc.region [] [] [0, 3, 4] [] [] ⟨[(0, (.v (.sl (List.map cS zn)), [])), (3, (.v (.slx), [(0, .ex 9 true (List.map cS (u3i.set ((u1t).toNat) u64)))])), (4, (.v (.int .i64 (wr.i64 (u1t + 1))), []))], [], []⟩ _ (by kernel_rfl) .nil ?_
        exact ⟨_, Nat.lt_succ_self _, _, _, rfl, h612⟩
      · refine Wc.condF h613 (by kernel_rfl) ?_
        refine Wc.fix (st' := ⟨[(3, (.v (.slx), [(0, .ex 9 true (List.map cS u3i))]))], [], []⟩) [] [3] [] [] (by kernel_rfl) ?_
        refine Wc.exit ?_
        obtain rfl := Option.some.inj h612
        exact ⟨_, rfl, rfl⟩
  · rintro st ⟨u8h, rfl, rfl⟩
    apply Wc.seq
    refine Wc.region [{ tk := [3] }, { tk := [21] }] [] [2] [] [] ⟨[(2, (.v (.slx), [(0, .ex 9 true (List.map cS u8h))]))], [], []⟩ _ (by kernel_rfl) .nil ?_
    refine Wc.ret ?_
    obtain rfl := Option.some.inj h
    exact ⟨.inl rfl, by kernel_rfl, by kernel_rfl⟩

def pimpl_renamed_on1_pimpl_copyTerm_1_d_L2 (k : Nat) (rimpl_renamed_on1_pimpl_copyTerm_1_d : GTerm → Option GTerm) (uu : GTerm) : Nat → Int → GTerm → Option (Out GTerm GTerm)
  | 0, _, _ => none
  | m + 1, u3j, v9 =>
    if (decide (u3j < (uu.gKids.length : Int))) = true then
      (at' uu.gKids u3j).bind fun u8i =>
      (rimpl_renamed_on1_pimpl_copyTerm_1_d u8i).bind fun u3k =>
      if v9.gKids.length + [u3k].length ≤ 1073741824 then
        pimpl_renamed_on1_pimpl_copyTerm_1_d_L2 k rimpl_renamed_on1_pimpl_copyTerm_1_d uu m (wr.i64 (u3j + 1)) (GTerm.mk v9.gKind v9.gName v9.gNum (v9.gKids ++ [u3k]))
      else none
    else
      some (.done v9)
def pimpl_renamed_on1_pimpl_copyTerm_1_d_J1 (k : Nat) (rimpl_renamed_on1_pimpl_copyTerm_1_d : GTerm → Option GTerm) (uu : GTerm) (vy : GTerm) : Option GTerm :=
  (pimpl_renamed_on1_pimpl_copyTerm_1_d_L2 k rimpl_renamed_on1_pimpl_copyTerm_1_d uu k 0 vy).bind fun out2 => match out2 with
  | .ret r => some r
  | .done u65 =>
    some u65
mutual
def pimpl_renamed_on1_pimpl_copyTerm_1_d : Nat → GTerm → Option GTerm
  | 0, _ => none
  | k + 1, uu =>
    if (uu.gKind == 1) = true then
      (pimpl_copyTerm_1 k uu.gNum).bind fun u30 =>
      pimpl_renamed_on1_pimpl_copyTerm_1_d_J1 k (pimpl_renamed_on1_pimpl_copyTerm_1_d k) uu (GTerm.mk uu.gKind uu.gName u30 [])
    else
      pimpl_renamed_on1_pimpl_copyTerm_1_d_J1 k (pimpl_renamed_on1_pimpl_copyTerm_1_d k) uu (GTerm.mk uu.gKind uu.gName uu.gNum [])
end
set_option maxHeartbeats 4000000 in
theorem all_pimpl_renamed_on1_pimpl_copyTerm_1_d : ∀ k : Nat, (∀ {uu : GTerm} {r : GTerm}, pimpl_renamed_on1_pimpl_copyTerm_1_d k uu = some r → FnO Try.prog 153 [.v (.agg (GTerm.q uu)) [], .v (.func 154 []) []] (.v (.agg (GTerm.qx r)) [(3, .ex 42 true (List.map GTerm.c r.gKids))]) []) := by
  intro k
  induction k with
  | zero =>
    · intro uu r h
      exact (onone (by rw [pimpl_renamed_on1_pimpl_copyTerm_1_d] at h; exact h)).elim
  | succ k ih =>
    have ih_pimpl_renamed_on1_pimpl_copyTerm_1_d := @ih
    · intro uu r h
      rw [pimpl_renamed_on1_pimpl_copyTerm_1_d] at h
      refine FnO.of Try.func153 (rfl : Try.f153.body = some _) (Nat.le_of_ble_eq_true (by kernel_rfl)) (Nat.le_of_ble_eq_true (by kernel_rfl)) ?_
      intro w0 X0 Fin pv0 pb
      apply Wc.seq
      refine Wc.region [] [] [1, 2, 4] [2, 4] [] ⟨[(1, (.v (.func 154 []), [])), (2, (.ptr 2 0, [])), (4, (.ptr 4 0, []))], [(2, .cells (GTerm.q uu) []), (4, .cells [.int .i64 0, .str (bs []), .int .i64 0, .sl (List.map GTerm.c [])] [(3, .app 42)])], []⟩ _ (by kernel_rfl) .nil ?_
      apply Wc.seq
      refine Wc.region [] [] [1, 2, 4, 5] [2, 4, 5] [] ⟨[(1, (.v (.func 154 []), [])), (2, (.ptr 2 0, [])), (4, (.ptr 4 0, [])), (5, (.ptr 5 0, []))], [(2, .cells (GTerm.q uu) []), (4, .cells [.int .i64 0, .str (bs []), .int .i64 0, .sl (List.map GTerm.c [])] [(3, .app 42)]), (5, .cells (GTerm.q uu) [])], []⟩ _ (by kernel_rfl) .nil ?_
      apply Wc.seq
      refine Wc.region [] [] [1, 2, 4, 5] [2, 4, 5] [] ⟨[(1, (.v (.func 154 []), [])), (2, (.ptr 2 0, [])), (4, (.ptr 4 0, [])), (5, (.ptr 5 0, []))], [(2, .cells (GTerm.q uu) []), (4, .cells [.int .i64 0, .str (bs []), .int .i64 0, .sl (List.map GTerm.c [])] [(3, .app 42)]), (5, .cells [.int .i64 uu.gKind, .str uu.gName, .int .i64 uu.gNum, .sl (List.map GTerm.c [])] [(3, .app 42)])], []⟩ _ (by kernel_rfl) .nil ?_
      refine Wc.seqJ (fun st => ∃ (vy : GTerm), st = ⟨[(1, (.v (.func 154 []), [])), (2, (.ptr 2 0, [])), (4, (.ptr 4 0, [])), (5, (.ptr 5 0, []))], [(2, .cells (GTerm.q uu) []), (4, .cells [.int .i64 0, .str (bs []), .int .i64 0, .slx] [(3, .ex 42 true (List.map GTerm.c []))]), (5, .cells (GTerm.qx vy) [(3, .ex 42 true (List.map GTerm.c vy.gKids))])], []⟩ ∧ pimpl_renamed_on1_pimpl_copyTerm_1_d_J1 k (pimpl_renamed_on1_pimpl_copyTerm_1_d k) uu vy = some r) ?_ ?_
      · apply Wc.seq
        refine Wc.region [] [] [1, 2, 4, 5, 12] [2, 4, 5] [] ⟨[(1, (.v (.func 154 []), [])), (2, (.ptr 2 0, [])), (4, (.ptr 4 0, [])), (5, (.ptr 5 0, [])), (12, (.v (.bool (uu.gKind == 1)), []))], [(2, .cells (GTerm.q uu) []), (4, .cells [.int .i64 0, .str (bs []), .int .i64 0, .sl (List.map GTerm.c [])] [(3, .app 42)]), (5, .cells [.int .i64 uu.gKind, .str uu.gName, .int .i64 uu.gNum, .sl (List.map GTerm.c [])] [(3, .app 42)])], []⟩ _ (by kernel_rfl) .nil ?_
        rcases oif h with ⟨h605, h⟩ | ⟨h605, h⟩
        · refine Wc.condT h605 (by kernel_rfl) ?_
          obtain ⟨u30, h606, h⟩ := obind h
          refine Wc.region [{}, {}, {}, { r := some (.v (.int .i64 u30) []) }] [.ow (.b 4 3) true, .ow (.b 5 3) true] [1, 2, 4, 5] [2, 4, 5] [] ⟨[(1, (.v (.func 154 []), [])), (2, (.ptr 2 0, [])), (4, (.ptr 4 0, [])), (5, (.ptr 5 0, []))], [(2, .cells (GTerm.q uu) []), (4, .cells [.int .i64 0, .str (bs []), .int .i64 0, .slx] [(3, .ex 42 true (List.map GTerm.c []))]), (5, .cells [.int .i64 uu.gKind, .str uu.gName, .int .i64 u30, .slx] [(3, .ex 42 true (List.map GTerm.c []))])], []⟩ _ (by kernel_rfl) (.cons (cimpl_copyTerm_1 h606) .nil) ?_
          exact ⟨_, rfl, h⟩
        · refine Wc.condF h605 (by kernel_rfl) ?_
          refine Wc.fix (st' := ⟨[(1, (.v (.func 154 []), [])), (2, (.ptr 2 0, [])), (4, (.ptr 4 0, [])), (5, (.ptr 5 0, []))], [(2, .cells (GTerm.q uu) []), (4, .cells [.int .i64 0, .str (bs []), .int .i64 0, .slx] [(3, .ex 42 true (List.map GTerm.c []))]), (5, .cells (GTerm.qx uu) [(3, .ex 42 true (List.map GTerm.c []))])], []⟩) [.ow (.b 4 3) true, .ow (.b 5 3) true] [1, 2, 4, 5] [2, 4, 5] [] (by kernel_rfl) ?_
          refine Wc.skip ?_
          exact ⟨_, rfl, h⟩
      · rintro st ⟨vy, rfl, h⟩
        apply Wc.seq
        apply Wc.seq
        refine Wc.region [{}, {}, { v := some (.int .i64 (uu.gKids.length : Int)) }] [] [1, 4, 5, 19, 20, 21] [4, 5] [] ⟨[(1, (.v (.func 154 []), [])), (4, (.ptr 4 0, [])), (5, (.ptr 5 0, [])), (19, (.v (.sl (List.map GTerm.c uu.gKids)), [])), (20, (.v (.int .i64 (uu.gKids.length : Int)), [])), (21, (.v (.int .i64 0), []))], [(4, .cells [.int .i64 0, .str (bs []), .int .i64 0, .slx] [(3, .ex 42 true (List.map GTerm.c []))]), (5, .cells (GTerm.qx vy) [(3, .ex 42 true (List.map GTerm.c vy.gKids))])], []⟩ _ (by kernel_rfl) (.cons (len_obl GTerm.c uu.gKids) .nil) ?_
        obtain ⟨out2, h600, h⟩ := obind h
        refine Wc.lastJ (fun st => ∃ (u65 : GTerm), out2 = .done u65 ∧ st = ⟨[(4, (.ptr 4 0, [])), (5, (.ptr 5 0, []))], [(4, .cells [.int .i64 0, .str (bs []), .int .i64 0, .slx] [(3, .ex 42 true (List.map GTerm.c []))]), (5, .cells (GTerm.qx u65) [(3, .ex 42 true (List.map GTerm.c u65.gKids))])], []⟩) ?_ ?_
        · refine Wc.block ?_
          refine Wc.loop (fun m st => ∃ (u3j : Int) (v9 : GTerm), st = ⟨[(1, (.v (.func 154 []), [])), (4, (.ptr 4 0, [])), (5, (.ptr 5 0, [])), (19, (.v (.sl (List.map GTerm.c uu.gKids)), [])), (20, (.v (.int .i64 (uu.gKids.length : Int)), [])), (21, (.v (.int .i64 u3j), []))], [(4, .cells [.int .i64 0, .str (bs []), .int .i64 0, .slx] [(3, .ex 42 true (List.map GTerm.c []))]), (5, .cells (GTerm.qx v9) [(3, .ex 42 true (List.map GTerm.c v9.gKids))])], []⟩ ∧ pimpl_renamed_on1_pimpl_copyTerm_1_d_L2 k (pimpl_renamed_on1_pimpl_copyTerm_1_d k) uu m u3j v9 = some out2) ?_ k ⟨_, _, rfl, h600⟩
          rintro m st ⟨u3j, v9, rfl, h600⟩
          cases m with
          | zero => exact (onone h600).elim
          | succ m =>
            apply Wc.seq
            refine Wc.region [] [] [1, 4, 5, 19, 20, 21, 22] [4, 5] [] ⟨[(1, (.v (.func 154 []), [])), (4, (.ptr 4 0, [])), (5, (.ptr 5 0, [])), (19, (.v (.sl (List.map GTerm.c uu.gKids)), [])), (20, (.v (.int .i64 (uu.gKids.length : Int)), [])), (21, (.v (.int .i64 u3j), [])), (22, (.v (.bool (decide (u3j < (uu.gKids.length : Int)))), []))], [(4, .cells [.int .i64 0, .str (bs []), .int .i64 0, .slx] [(3, .ex 42 true (List.map GTerm.c []))]), (5, .cells (GTerm.qx v9) [(3, .ex 42 true (List.map GTerm.c v9.gKids))])], []⟩ _ (by kernel_rfl) .nil ?_
            apply Wc.seq
            rcases oif h600 with ⟨h601, h600⟩ | ⟨h601, h600⟩
            · refine Wc.condT h601 (by kernel_rfl) ?_
              refine Wc.fix (st' := ⟨[(1, (.v (.func 154 []), [])), (4, (.ptr 4 0, [])), (5, (.ptr 5 0, [])), (19, (.v (.sl (List.map GTerm.c uu.gKids)), [])), (20, (.v (.int .i64 (uu.gKids.length : Int)), [])), (21, (.v (.int .i64 u3j), []))], [(4, .cells [.int .i64 0, .str (bs []), .int .i64 0, .slx] [(3, .ex 42 true (List.map GTerm.c []))]), (5, .cells (GTerm.qx v9) [(3, .ex 42 true (List.map GTerm.c v9.gKids))])], []⟩) [] [1, 4, 5, 19, 20, 21] [4, 5] [] (by kernel_rfl) ?_
              refine Wc.skip ?_
              apply Wc.seq
              refine Wc.block ?_
              apply Wc.seq
              obtain ⟨u8i, h602, h600⟩ := obind h600
              refine Wc.region [{ v := some (.vptr (GTerm.q u8i)) }] [] [1, 4, 5, 7, 19, 20, 21] [4, 5, 7] [] ⟨[(1, (.v (.func 154 []), [])), (4, (.ptr 4 0, [])), (5, (.ptr 5 0, [])), (7, (.ptr 7 0, [])), (19, (.v (.sl (List.map GTerm.c uu.gKids)), [])), (20, (.v (.int .i64 (uu.gKids.length : Int)), [])), (21, (.v (.int .i64 u3j), []))], [(4, .cells [.int .i64 0, .str (bs []), .int .i64 0, .slx] [(3, .ex 42 true (List.map GTerm.c []))]), (5, .cells (GTerm.qx v9) [(3, .ex 42 true (List.map GTerm.c v9.gKids))]), (7, .cells (GTerm.q u8i) [])], []⟩ _ (by kernel_rfl) (.cons (at_obl (c := GTerm.c) (GTerm.c_eq u8i) GTerm.c_len h602) (.cons (len_ok 4 (GTerm.q u8i)) .nil)) ?_
              obtain ⟨u3k, h603, h600⟩ := obind h600
              obtain ⟨h604, h600⟩ := oguard h600
              refine Wc.draw hmix [{}, { md := 1 }, {}, {}, { r := some (.v (.agg (GTerm.qx u3k)) [(3, .ex 42 true (List.map GTerm.c u3k.gKids))]) }, { c := some (List.map GTerm.c [u3k]), tk := [29], md := 2 }, { c := some (List.map GTerm.c (v9.gKids ++ [u3k])), tk := [26, 30], md := 2 }, {}, { tk := [31] }] [] [1, 4, 5, 19, 20, 21] [4, 5] [] ⟨[(1, (.v (.func 154 []), [])), (4, (.ptr 4 0, [])), (5, (.ptr 5 0, [])), (19, (.v (.sl (List.map GTerm.c uu.gKids)), [])), (20, (.v (.int .i64 (uu.gKids.length : Int)), [])), (21, (.v (.int .i64 u3j), []))], [(4, .cells [.int .i64 0, .str (bs []), .int .i64 0, .slx] [(3, .ex 42 true (List.map GTerm.c []))]), (5, .cells (GTerm.qx v9) [(3, .ex 42 true (List.map GTerm.c (v9.gKids ++ [u3k])))])], []⟩ _ (by kernel_rfl) (fun X => by kernel_rfl) (.cons (ih_pimpl_renamed_on1_pimpl_copyTerm_1_d h603) (.cons (cl_cons (c := GTerm.c) (x := u3k) (GTerm.c_eq u3k) (cl_nil GTerm.c)) (.cons (app_re2 GTerm.c v9.gKids [u3k]) (.cons (app_obl2 (c := GTerm.c) (xs := v9.gKids) (ys := [u3k]) GTerm.c_len h604) .nil)))) ?_
              refine Wc.region [] [] [1, 4, 5, 19, 20, 21] [4, 5] [] ⟨[(1, (.v (.func 154 []), [])), (4, (.ptr 4 0, [])), (5, (.ptr 5 0, [])), (19, (.v (.sl (List.map GTerm.c uu.gKids)), [])), (20, (.v (.int .i64 (uu.gKids.length : Int)), [])), (21, (.v (.int .i64 (wr.i64 (u3j + 1))), []))], [(4, .cells [.int .i64 0, .str (bs []), .int .i64 0, .slx] [(3, .ex 42 true (List.map GTerm.c []))]), (5, .cells (GTerm.qx v9) [(3, .ex 42 true (List.map GTerm.c (v9.gKids ++ [u3k])))])], []⟩ _ (by kernel_rfl) .nil ?_
              exact ⟨_, Nat.lt_succ_self _, _, _, rfl, h600⟩
            · refine Wc.condF h601 (by kernel_rfl) ?_
              refine Wc.fix (st' := ⟨[(4, (.ptr 4 0, [])), (5, (.ptr 5 0, []))], [(4, .cells [.int .i64 0, .str (bs []), .int .i64 0, .slx] [(3, .ex 42 true (List.map GTerm.c []))]), (5, .cells (GTerm.qx v9) [(3, .ex 42 true (List.map GTerm.c v9.gKids))])], []⟩) [] [4, 5] [4, 5] [] (by kernel_rfl) ?_
              refine Wc.exit ?_
              obtain rfl := Option.some.inj h600
              exact ⟨_, rfl, rfl⟩
        · rintro st ⟨u65, rfl, rfl⟩
          apply Wc.seq
          refine Wc.region [{ md := 1 }, { tk := [34] }] [] [4] [4] [] ⟨[(4, (.ptr 4 0, []))], [(4, .cells (GTerm.qx u65) [(3, .ex 42 true (List.map GTerm.c u65.gKids))])], []⟩ _ (by kernel_rfl) .nil ?_
          refine Wc.ret ?_
          obtain rfl := Option.some.inj h
          exact ⟨.inl rfl, by kernel_rfl, by kernel_rfl⟩
theorem cimpl_renamed_on1_pimpl_copyTerm_1_d {k : Nat} {uu : GTerm} {r : GTerm} (h : pimpl_renamed_on1_pimpl_copyTerm_1_d k uu = some r) : FnO Try.prog 153 [.v (.agg (GTerm.q uu)) [], .v (.func 154 []) []] (.v (.agg (GTerm.qx r)) [(3, .ex 42 true (List.map GTerm.c r.gKids))]) [] := (all_pimpl_renamed_on1_pimpl_copyTerm_1_d k) h

def pimpl_copyTerm_d (k : Nat) (uaa : GTerm) : Option GTerm :=
  (pimpl_renamed_on1_pimpl_copyTerm_1_d k uaa).bind fun u8j =>
  some u8j
theorem cimpl_copyTerm_d {k : Nat} {uaa : GTerm} {r : GTerm} (h : pimpl_copyTerm_d k uaa = some r) : FnO Try.prog 136 [.v (.agg (GTerm.q uaa)) []] (.v (.agg (GTerm.qx r)) [(3, .ex 42 true (List.map GTerm.c r.gKids))]) [] := by
  refine FnO.of Try.func136 (rfl : Try.f136.body = some _) (Nat.le_of_ble_eq_true (by kernel_rfl)) (Nat.le_of_ble_eq_true (by kernel_rfl)) ?_
  intro w0 X0 Fin pv0 pb
  unfold pimpl_copyTerm_d at h
  apply Wc.seq
  refine Wc.region [] [] [1, 2] [1, 2] [] ⟨[(1, (.ptr 1 0, [])), (2, (.ptr 2 0, []))], [(1, .cells (GTerm.q uaa) []), (2, .cells [.int .i64 0, .str (bs []), .int .i64 0, .sl (List.map GTerm.c [])] [(3, .app 42)])], []⟩ _ (by kernel_rfl) .nil ?_
  apply Wc.seq
  obtain ⟨u8j, h594, h⟩ := obind h
  refine Wc.region [{}, { r := some (.v (.agg (GTerm.qx u8j)) [(3, .ex 42 true (List.map GTerm.c u8j.gKids))]) }, { tk := [4] }] [] [2] [2] [] ⟨[(2, (.ptr 2 0, []))], [(2, .cells (GTerm.qx u8j) [(3, .ex 42 true (List.map GTerm.c u8j.gKids))])], []⟩ _ (by kernel_rfl) (.cons (cimpl_renamed_on1_pimpl_copyTerm_1_d h594) .nil) ?_
  refine Wc.ret ?_
  obtain rfl := Option.some.inj h
  exact ⟨.inl rfl, by kernel_rfl, by kernel_rfl⟩

def pimpl_wordsOf_d_L1 (k : Nat) (rimpl_wordsOf_d : GTerm → (List Int) → Option ((List GIns) × (List Int))) (ul : GTerm) : Nat → (List Int) → (List GIns) → Int → Option (Out ((List GIns) × (List Int)) ((List Int) × (List GIns)))
  | 0, _, _, _ => none
  | m + 1, u4h, u1h, u2g =>
    if (decide (u2g < (ul.gKids.length : Int))) = true then
      (at' ul.gKids u2g).bind fun u6j =>
      (rimpl_wordsOf_d u6j u4h).bind fun u2h =>
      if u1h.length + u2h.1.length ≤ 1073741824 then
        pimpl_wordsOf_d_L1 k rimpl_wordsOf_d ul m u2h.2 (u1h ++ u2h.1) (wr.i64 (u2g + 1))
      else none
    else
      some (.done (u4h, u1h))
mutual
def pimpl_wordsOf_d : Nat → GTerm → (List Int) → Option ((List GIns) × (List Int))
  | 0, _, _ => none
  | k + 1, ul, z7 =>
    if (ul.gKind == 2) = true then
      some ([GIns.mk 1 ul.gName 0 0], z7)
    else
      if (ul.gKind == 3) = true then
        some ([GIns.mk 2 (bs []) ul.gNum 0], z7)
      else
        if (ul.gKind == 1) = true then
          (pslices_Contains___int_int_ k z7 ul.gNum).bind fun ubv =>
          if ubv = true then
            some ([GIns.mk 4 (bs []) ul.gNum 0], z7)
          else
            if z7.length + [ul.gNum].length ≤ 1073741824 then
              some ([GIns.mk 3 (bs []) ul.gNum 0], z7 ++ [ul.gNum])
            else none
        else
          (pimpl_wordsOf_d_L1 k (pimpl_wordsOf_d k) ul k z7 [GIns.mk 5 ul.gName 0 (ul.gKids.length : Int)] 0).bind fun out1 => match out1 with
          | .ret r => some r
          | .done (u8k, u8l) =>
            some (u8l, u8k)
end
set_option maxHeartbeats 4000000 in
theorem all_pimpl_wordsOf_d : ∀ k : Nat, (∀ {ul : GTerm} {z7 : List Int} {r : (List GIns) × (List Int)}, pimpl_wordsOf_d k ul z7 = some r → FnO Try.prog 127 [.v (.agg (GTerm.q ul)) [], .v (.slx) [(0, .ex 3 true (List.map cI.i64 z7))]] (.v (.tup [.slx, .slx]) [(0, .ex 158 true (List.map GIns.c r.1)), (1, .ex 3 true (List.map cI.i64 r.2))]) []) := by
  intro k
  induction k with
  | zero =>
    · intro ul z7 r h
      exact (onone (by rw [pimpl_wordsOf_d] at h; exact h)).elim
  | succ k ih =>
    have ih_pimpl_wordsOf_d := @ih
    · intro ul z7 r h
      rw [pimpl_wordsOf_d] at h
      refine FnO.of Try.func127 (rfl : Try.f127.body = some _) (Nat.le_of_ble_eq_true (by kernel_rfl)) (Nat.le_of_ble_eq_true (by kernel_rfl)) ?_
      intro w0 X0 Fin pv0 pb
      apply Wc.seq
      refine Wc.region [] [] [1, 2] [2] [] ⟨[(1, (.v (.slx), [(0, .ex 3 true (List.map cI.i64 z7))])), (2, (.ptr 2 0, []))], [(2, .cells (GTerm.q ul) [])], []⟩ _ (by kernel_rfl) .nil ?_
      apply Wc.seq
      apply Wc.seq
      refine Wc.region [] [] [1, 2, 11] [2] [] ⟨[(1, (.v (.slx), [(0, .ex 3 true (List.map cI.i64 z7))])), (2, (.ptr 2 0, [])), (11, (.v (.int .i64 ul.gKind), []))], [(2, .cells (GTerm.q ul) [])], []⟩ _ (by kernel_rfl) .nil ?_
      refine Wc.block ?_
      apply Wc.seq
      refine Wc.region [] [] [1, 2, 11, 12] [2] [] ⟨[(1, (.v (.slx), [(0, .ex 3 true (List.map cI.i64 z7))])), (2, (.ptr 2 0, [])), (11, (.v (.int .i64 ul.gKind), [])), (12, (.v (.bool (ul.gKind == 2)), []))], [(2, .cells (GTerm.q ul) [])], []⟩ _ (by kernel_rfl) .nil ?_
      rcases oif h with ⟨h612, h⟩ | ⟨h612, h⟩
      · refine Wc.condT h612 (by kernel_rfl) ?_
        apply Wc.seq
        refine Wc.region [{}, {}, {}, { c := some (List.map GIns.c [GIns.mk 1 ul.gName 0 0]), md := 2 }, { tk := [1] }, { tk := [17] }, { tk := [18] }] [] [4, 5] [] [] ⟨[(4, (.v (.slx), [(0, .ex 158 true (List.map GIns.c [GIns.mk 1 ul.gName 0 0]))])), (5, (.v (.slx), [(0, .ex 3 true (List.map cI.i64 z7))]))], [], []⟩ _ (by kernel_rfl) (.cons (cl_cons (c := GIns.c) (x := GIns.mk 1 ul.gName 0 0) (GIns.c_eq (GIns.mk 1 ul.gName 0 0)) (cl_nil GIns.c)) .nil) ?_
        refine Wc.ret ?_
        obtain rfl := Option.some.inj h
        exact ⟨.inl rfl, by kernel_rfl, by kernel_rfl⟩
      · refine Wc.condF h612 (by kernel_rfl) ?_
        apply Wc.seq
        refine Wc.region [] [] [1, 2, 11, 19] [2] [] ⟨[(1, (.v (.slx), [(0, .ex 3 true (List.map cI.i64 z7))])), (2, (.ptr 2 0, [])), (11, (.v (.int .i64 ul.gKind), [])), (19, (.v (.bool (ul.gKind == 3)), []))], [(2, .cells (GTerm.q ul) [])], []⟩ _ (by kernel_rfl) .nil ?_
        rcases oif h with ⟨h613, h⟩ | ⟨h613, h⟩
        · refine Wc.condT h613 (by kernel_rfl) ?_
          apply Wc.seq
          refine Wc.region [{}, {}, {}, { c := some (List.map GIns.c [GIns.mk 2 (bs []) ul.gNum 0]), md := 2 }, { tk := [1] }, { tk := [24] }, { tk := [25] }] [] [4, 5] [] [] ⟨[(4, (.v (.slx), [(0, .ex 158 true (List.map GIns.c [GIns.mk 2 (bs []) ul.gNum 0]))])), (5, (.v (.slx), [(0, .ex 3 true (List.map cI.i64 z7))]))], [], []⟩ _ (by kernel_rfl) (.cons (cl_cons (c := GIns.c) (x := GIns.mk 2 (bs []) ul.gNum 0) (GIns.c_eq (GIns.mk 2 (bs []) ul.gNum 0)) (cl_nil GIns.c)) .nil) ?_
          refine Wc.ret ?_
          obtain rfl := Option.some.inj h
          exact ⟨.inl rfl, by kernel_rfl, by kernel_rfl⟩
        · refine Wc.condF h613 (by kernel_rfl) ?_
          apply Wc.seq
          refine Wc.region [] [] [1, 2, 26] [2] [] ⟨[(1, (.v (.slx), [(0, .ex 3 true (List.map cI.i64 z7))])), (2, (.ptr 2 0, [])), (26, (.v (.bool (ul.gKind == 1)), []))], [(2, .cells (GTerm.q ul) [])], []⟩ _ (by kernel_rfl) .nil ?_
          rcases oif h with ⟨h614, h⟩ | ⟨h614, h⟩
          · refine Wc.condT h614 (by kernel_rfl) ?_
            apply Wc.seq
            apply Wc.seq
            obtain ⟨ubv, h615, h⟩ := obind h
            refine Wc.region [{}, {}, {}, { r := some (.v (.bool ubv) []) }] [] [1, 2, 31] [2] [] ⟨[(1, (.v (.slx), [(0, .ex 3 true (List.map cI.i64 z7))])), (2, (.ptr 2 0, [])), (31, (.v (.bool ubv), []))], [(2, .cells (GTerm.q ul) [])], []⟩ _ (by kernel_rfl) (.cons (cslices_Contains___int_int_ h615) .nil) ?_
            rcases oif h with ⟨h616, h⟩ | ⟨h616, h⟩
            · refine Wc.condT h616 (by kernel_rfl) ?_
              apply Wc.seq
              refine Wc.region [{}, {}, {}, { c := some (List.map GIns.c [GIns.mk 4 (bs []) ul.gNum 0]), md := 2 }, { tk := [1] }, { tk := [35] }, { tk := [36] }] [] [4, 5] [] [] ⟨[(4, (.v (.slx), [(0, .ex 158 true (List.map GIns.c [GIns.mk 4 (bs []) ul.gNum 0]))])), (5, (.v (.slx), [(0, .ex 3 true (List.map cI.i64 z7))]))], [], []⟩ _ (by kernel_rfl) (.cons (cl_cons (c := GIns.c) (x := GIns.mk 4 (bs []) ul.gNum 0) (GIns.c_eq (GIns.mk 4 (bs []) ul.gNum 0)) (cl_nil GIns.c)) .nil) ?_
              refine Wc.ret ?_
              obtain rfl := Option.some.inj h
              exact ⟨.inl rfl, by kernel_rfl, by kernel_rfl⟩
            · refine Wc.condF h616 (by kernel_rfl) ?_
              refine Wc.fix (st' := ⟨[(1, (.v (.slx), [(0, .ex 3 true (List.map cI.i64 z7))])), (2, (.ptr 2 0, []))], [(2, .cells (GTerm.q ul) [])], []⟩) [] [1, 2] [2] [] (by kernel_rfl) ?_
              refine Wc.skip ?_
              apply Wc.seq
              obtain ⟨h617, h⟩ := oguard h
              refine Wc.draw hmix [{}, {}, {}, { c := some (List.map GIns.c [GIns.mk 3 (bs []) ul.gNum 0]), md := 2 }, { tk := [1] }, {}, {}, { c := some (List.map cI.i64 [ul.gNum]) }, { c := some (List.map cI.i64 (z7 ++ [ul.gNum])), tk := [41], md := 2 }, { tk := [40] }, { tk := [45] }] [] [4, 5] [] [] ⟨[(4, (.v (.slx), [(0, .ex 158 true (List.map GIns.c [GIns.mk 3 (bs []) ul.gNum 0]))])), (5, (.v (.slx), [(0, .ex 3 true (List.map cI.i64 (z7 ++ [ul.gNum])))]))], [], []⟩ _ (by kernel_rfl) (fun X => by kernel_rfl) (.cons (cl_cons (c := GIns.c) (x := GIns.mk 3 (bs []) ul.gNum 0) (GIns.c_eq (GIns.mk 3 (bs []) ul.gNum 0)) (cl_nil GIns.c)) (.cons (cl_cons (c := cI.i64) (x := ul.gNum) rfl (cl_nil cI.i64)) (.cons (app_re2 cI.i64 z7 [ul.gNum]) (.cons (app_scal (c := cI.i64) (ys := [ul.gNum]) cI.i64_scal) (.cons (app_obl2 (c := cI.i64) (xs := z7) (ys := [ul.gNum]) cI.i64_len h617) .nil))))) ?_
              refine Wc.ret ?_
              obtain rfl := Option.some.inj h
              exact ⟨.inl rfl, by kernel_rfl, by kernel_rfl⟩
          · refine Wc.condF h614 (by kernel_rfl) ?_
            refine Wc.fix (st' := ⟨[(1, (.v (.slx), [(0, .ex 3 true (List.map cI.i64 z7))])), (2, (.ptr 2 0, []))], [(2, .cells (GTerm.q ul) [])], []⟩) [] [1, 2] [2] [] (by kernel_rfl) ?_
            refine Wc.skip ?_
            apply Wc.seq
            refine Wc.region [{}, {}, {}, {}, { v := some (.int .i64 (ul.gKids.length : Int)) }, {}, { c := some (List.map GIns.c [GIns.mk 5 ul.gName 0 (ul.gKids.length : Int)]), md := 2 }, { tk := [52] }] [] [1, 2, 6] [2] [] ⟨[(1, (.v (.slx), [(0, .ex 3 true (List.map cI.i64 z7))])), (2, (.ptr 2 0, [])), (6, (.v (.slx), [(0, .ex 158 true (List.map GIns.c [GIns.mk 5 ul.gName 0 (ul.gKids.length : Int)]))]))], [(2, .cells (GTerm.q ul) [])], []⟩ _ (by kernel_rfl) (.cons (len_obl GTerm.c ul.gKids) (.cons (cl_cons (c := GIns.c) (x := GIns.mk 5 ul.gName 0 (ul.gKids.length : Int)) (GIns.c_eq (GIns.mk 5 ul.gName 0 (ul.gKids.length : Int))) (cl_nil GIns.c)) .nil)) ?_
            apply Wc.seq
            apply Wc.seq
            refine Wc.region [{}, {}, { v := some (.int .i64 (ul.gKids.length : Int)) }] [] [1, 6, 54, 55, 56] [] [] ⟨[(1, (.v (.slx), [(0, .ex 3 true (List.map cI.i64 z7))])), (6, (.v (.slx), [(0, .ex 158 true (List.map GIns.c [GIns.mk 5 ul.gName 0 (ul.gKids.length : Int)]))])), (54, (.v (.sl (List.map GTerm.c ul.gKids)), [])), (55, (.v (.int .i64 (ul.gKids.length : Int)), [])), (56, (.v (.int .i64 0), []))], [], []⟩ _ (by kernel_rfl) (.cons (len_obl GTerm.c ul.gKids) .nil) ?_
            obtain ⟨out1, h618, h⟩ := obind h
            refine Wc.lastJ (fun st => ∃ (u8k : List Int) (u8l : List GIns), out1 = .done (u8k, u8l) ∧ st = ⟨[(1, (.v (.slx), [(0, .ex 3 true (List.map cI.i64 u8k))])), (6, (.v (.slx), [(0, .ex 158 true (List.map GIns.c u8l))]))], [], []⟩) ?_ ?_
            · refine Wc.block ?_
              refine Wc.loop (fun m st => ∃ (u4h : List Int) (u1h : List GIns) (u2g : Int), st = ⟨[(1, (.v (.slx), [(0, .ex 3 true (List.map cI.i64 u4h))])), (6, (.v (.slx), [(0, .ex 158 true (List.map GIns.c u1h))])), (54, (.v (.sl (List.map GTerm.c ul.gKids)), [])), (55, (.v (.int .i64 (ul.gKids.length : Int)), [])), (56, (.v (.int .i64 u2g), []))], [], []⟩ ∧ pimpl_wordsOf_d_L1 k (pimpl_wordsOf_d k) ul m u4h u1h u2g = some out1) ?_ k ⟨_, _, _, rfl, h618⟩
              rintro m st ⟨u4h, u1h, u2g, rfl, h618⟩
              cases m with
              | zero => exact (onone h618).elim
              | succ m =>
                apply Wc.seq
                refine Wc.region [] [] [1, 6, 54, 55, 56, 57] [] [] ⟨[(1, (.v (.slx), [(0, .ex 3 true (List.map cI.i64 u4h))])), (6, (.v (.slx), [(0, .ex 158 true (List.map GIns.c u1h))])), (54, (.v (.sl (List.map GTerm.c ul.gKids)), [])), (55, (.v (.int .i64 (ul.gKids.length : Int)), [])), (56, (.v (.int .i64 u2g), [])), (57, (.v (.bool (decide (u2g < (ul.gKids.length : Int)))), []))], [], []⟩ _ (by kernel_rfl) .nil ?_
                apply Wc.seq
                rcases oif h618 with ⟨h619, h618⟩ | ⟨h619, h618⟩
                · refine Wc.condT h619 (by kernel_rfl) ?_
                  refine Wc.fix (st' := ⟨[(1, (.v (.slx), [(0, .ex 3 true (List.map cI.i64 u4h))])), (6, (.v (.slx), [(0, .ex 158 true (List.map GIns.c u1h))])), (54, (.v (.sl (List.map GTerm.c ul.gKids)), [])), (55, (.v (.int .i64 (ul.gKids.length : Int)), [])), (56, (.v (.int .i64 u2g), []))], [], []⟩) [] [1, 6, 54, 55, 56] [] [] (by kernel_rfl) ?_
                  refine Wc.skip ?_
                  apply Wc.seq
                  refine Wc.block ?_
                  apply Wc.seq
                  obtain ⟨u6j, h620, h618⟩ := obind h618
                  refine Wc.region [{ v := some (.vptr (GTerm.q u6j)) }] [] [1, 6, 8, 54, 55, 56] [8] [] ⟨[(1, (.v (.slx), [(0, .ex 3 true (List.map cI.i64 u4h))])), (6, (.v (.slx), [(0, .ex 158 true (List.map GIns.c u1h))])), (8, (.ptr 8 0, [])), (54, (.v (.sl (List.map GTerm.c ul.gKids)), [])), (55, (.v (.int .i64 (ul.gKids.length : Int)), [])), (56, (.v (.int .i64 u2g), []))], [(8, .cells (GTerm.q u6j) [])], []⟩ _ (by kernel_rfl) (.cons (at_obl (c := GTerm.c) (GTerm.c_eq u6j) GTerm.c_len h620) (.cons (len_ok 4 (GTerm.q u6j)) .nil)) ?_
                  apply Wc.seq
                  refine Wc.region [] [] [1, 6, 8, 54, 55, 56] [8] [] ⟨[(1, (.v (.slx), [(0, .ex 3 true (List.map cI.i64 u4h))])), (6, (.v (.slx), [(0, .ex 158 true (List.map GIns.c u1h))])), (8, (.ptr 8 0, [])), (54, (.v (.sl (List.map GTerm.c ul.gKids)), [])), (55, (.v (.int .i64 (ul.gKids.length : Int)), [])), (56, (.v (.int .i64 u2g), []))], [(8, .cells (GTerm.q u6j) [])], []⟩ _ (by kernel_rfl) .nil ?_
                  apply Wc.seq
                  obtain ⟨u2h, h621, h618⟩ := obind h618
                  refine Wc.region [{}, { tk := [1] }, { tk := [62], r := some (.v (.tup [.slx, .slx]) [(0, .ex 158 true (List.map GIns.c u2h.1)), (1, .ex 3 true (List.map cI.i64 u2h.2))]) }, { tk := [63] }, { tk := [60] }, { tk := [60] }, { tk := [64] }, { tk := [65] }] [] [1, 6, 9, 54, 55, 56] [] [] ⟨[(1, (.v (.slx), [(0, .ex 3 true (List.map cI.i64 u2h.2))])), (6, (.v (.slx), [(0, .ex 158 true (List.map GIns.c u1h))])), (9, (.v (.slx), [(0, .ex 158 true (List.map GIns.c u2h.1))])), (54, (.v (.sl (List.map GTerm.c ul.gKids)), [])), (55, (.v (.int .i64 (ul.gKids.length : Int)), [])), (56, (.v (.int .i64 u2g), []))], [], []⟩ _ (by kernel_rfl) (.cons (ih_pimpl_wordsOf_d h621) .nil) ?_
                  obtain ⟨h622, h618⟩ := oguard h618
                  refine Wc.region [{ tk := [6] }, { tk := [9] }, { c := some (List.map GIns.c (u1h ++ u2h.1)), tk := [66, 67], md := 2 }, { tk := [68] }] [] [1, 6, 54, 55, 56] [] [] ⟨[(1, (.v (.slx), [(0, .ex 3 true (List.map cI.i64 u2h.2))])), (6, (.v (.slx), [(0, .ex 158 true (List.map GIns.c (u1h ++ u2h.1)))])), (54, (.v (.sl (List.map GTerm.c ul.gKids)), [])), (55, (.v (.int .i64 (ul.gKids.length : Int)), [])), (56, (.v (.int .i64 u2g), []))], [], []⟩ _ (by kernel_rfl) (.cons (app_re2 GIns.c u1h u2h.1) (.cons (app_obl2 (c := GIns.c) (xs := u1h) (ys := u2h.1) GIns.c_len h622) .nil)) ?_
                  refine Wc.region [] [] [1, 6, 54, 55, 56] [] [] ⟨[(1, (.v (.slx), [(0, .ex 3 true (List.map cI.i64 u2h.2))])), (6, (.v (.slx), [(0, .ex 158 true (List.map GIns.c (u1h ++ u2h.1)))])), (54, (.v (.sl (List.map GTerm.c ul.gKids)), [])), (55, (.v (.int .i64 (ul.gKids.length : Int)), [])), (56, (.v (.int .i64 (wr.i64 (u2g + 1))), []))], [], []⟩ _ (by kernel_rfl) .nil ?_
                  exact ⟨_, Nat.lt_succ_self _, _, _, _, rfl, h618⟩
                · refine Wc.condF h619 (by kernel_rfl) ?_
                  refine Wc.fix (st' := ⟨[(1, (.v (.slx), [(0, .ex 3 true (List.map cI.i64 u4h))])), (6, (.v (.slx), [(0, .ex 158 true (List.map GIns.c u1h))]))], [], []⟩) [] [1, 6] [] [] (by kernel_rfl) ?_
                  refine Wc.exit ?_
                  obtain rfl := Option.some.inj h618
                  exact ⟨_, _, rfl, rfl⟩
            · rintro st ⟨u8k, u8l, rfl, rfl⟩
              apply Wc.seq
              refine Wc.region [{ tk := [6] }, { tk := [1] }, { tk := [70] }, { tk := [71] }] [] [4, 5] [] [] ⟨[(4, (.v (.slx), [(0, .ex 158 true (List.map GIns.c u8l))])), (5, (.v (.slx), [(0, .ex 3 true (List.map cI.i64 u8k))]))], [], []⟩ _ (by kernel_rfl) .nil ?_
              refine Wc.ret ?_
              obtain rfl := Option.some.inj h
              exact ⟨.inl rfl, by kernel_rfl, by kernel_rfl⟩
theorem cimpl_wordsOf_d {k : Nat} {ul : GTerm} {z7 : List Int} {r : (List GIns) × (List Int)} (h : pimpl_wordsOf_d k ul z7 = some r) : FnO Try.prog 127 [.v (.agg (GTerm.q ul)) [], .v (.slx) [(0, .ex 3 true (List.map cI.i64 z7))]] (.v (.tup [.slx, .slx]) [(0, .ex 158 true (List.map GIns.c r.1)), (1, .ex 3 true (List.map cI.i64 r.2))]) [] := (all_pimpl_wordsOf_d k) h

def pimpl_WordsOf_d_L1 (k : Nat) (vu : List Int) : Nat → (List Int) → Int → Option (Out ((List GIns) × (List Int)) (List Int))
  | 0, _, _ => none
  | m + 1, u0u, u1u =>
    if (decide (u1u < (vu.length : Int))) = true then
      (at' vu u1u).bind fun u22 =>
      (pslices_Contains___int_int_ k u0u u22).bind fun ubw =>
      if (!ubw) = true then
        if u0u.length + [u22].length ≤ 1073741824 then
          pimpl_WordsOf_d_L1 k vu m (u0u ++ [u22]) (wr.i64 (u1u + 1))
        else none
      else
        pimpl_WordsOf_d_L1 k vu m u0u (wr.i64 (u1u + 1))
    else
      some (.done u0u)
def pimpl_WordsOf_d (k : Nat) (v9 : GTerm) (vu : List Int) : Option ((List GIns) × (List Int)) :=
  (pimpl_WordsOf_d_L1 k vu k [] 0).bind fun out1 => match out1 with
  | .ret r => some r
  | .done u4p =>
    (pimpl_TermOk k v9).bind fun ubx =>
    if (!ubx) = true then
      some ([], u4p)
    else
      (pimpl_wordsOf_d k v9 u4p).bind fun u6k =>
      some (u6k.1, u6k.2)
theorem cimpl_WordsOf_d {k : Nat} {v9 : GTerm} {vu : List Int} {r : (List GIns) × (List Int)} (h : pimpl_WordsOf_d k v9 vu = some r) : FnO Try.prog 82 [.v (.agg (GTerm.q v9)) [], .v (.sl (List.map cI.i64 vu)) []] (.v (.tup [.slx, .slx]) [(0, .ex 158 true (List.map GIns.c r.1)), (1, .ex 3 true (List.map cI.i64 r.2))]) [] := by
  refine FnO.of Try.func82 (rfl : Try.f82.body = some _) (Nat.le_of_ble_eq_true (by kernel_rfl)) (Nat.le_of_ble_eq_true (by kernel_rfl)) ?_
  intro w0 X0 Fin pv0 pb
  unfold pimpl_WordsOf_d at h
  apply Wc.seq
  refine Wc.region [] [] [1, 2] [2] [] ⟨[(1, (.v (.sl (List.map cI.i64 vu)), [])), (2, (.ptr 2 0, []))], [(2, .cells (GTerm.q v9) [])], []⟩ _ (by kernel_rfl) .nil ?_
  apply Wc.seq
  refine Wc.region [] [] [1, 2, 6] [2] [] ⟨[(1, (.v (.sl (List.map cI.i64 vu)), [])), (2, (.ptr 2 0, [])), (6, (.v (.sl (List.map cI.i64 [])), [(0, .app 3)]))], [(2, .cells (GTerm.q v9) [])], []⟩ _ (by kernel_rfl) .nil ?_
  apply Wc.seq
  apply Wc.seq
  refine Wc.region [{}, { v := some (.int .i64 (vu.length : Int)) }] [] [2, 6, 9, 10, 11] [2] [] ⟨[(2, (.ptr 2 0, [])), (6, (.v (.sl (List.map cI.i64 [])), [(0, .app 3)])), (9, (.v (.sl (List.map cI.i64 vu)), [])), (10, (.v (.int .i64 (vu.length : Int)), [])), (11, (.v (.int .i64 0), []))], [(2, .cells (GTerm.q v9) [])], []⟩ _ (by kernel_rfl) (.cons (len_obl cI.i64 vu) .nil) ?_
  obtain ⟨out1, h606, h⟩ := obind h
  refine Wc.lastJ (fun st => ∃ (u4p : List Int), out1 = .done u4p ∧ st = ⟨[(2, (.ptr 2 0, [])), (6, (.v (.slx), [(0, .ex 3 true (List.map cI.i64 u4p))]))], [(2, .cells (GTerm.q v9) [])], []⟩) ?_ ?_
  · refine Wc.block ?_
    refine Wc.fix (st' := ⟨[(2, (.ptr 2 0, [])), (6, (.v (.slx), [(0, .ex 3 true (List.map cI.i64 []))])), (9, (.v (.sl (List.map cI.i64 vu)), [])), (10, (.v (.int .i64 (vu.length : Int)), [])), (11, (.v (.int .i64 0), []))], [(2, .cells (GTerm.q v9) [])], []⟩) [.ow (.t 6 0) true] [2, 6, 9, 10, 11] [2] [] (by kernel_rfl) ?_
    refine Wc.loop (fun m st => ∃ (u0u : List Int) (u1u : Int), st = ⟨[(2, (.ptr 2 0, [])), (6, (.v (.slx), [(0, .ex 3 true (List.map cI.i64 u0u))])), (9, (.v (.sl (List.map cI.i64 vu)), [])), (10, (.v (.int .i64 (vu.length : Int)), [])), (11, (.v (.int .i64 u1u), []))], [(2, .cells (GTerm.q v9) [])], []⟩ ∧ pimpl_WordsOf_d_L1 k vu m u0u u1u = some out1) ?_ k ⟨_, _, rfl, h606⟩
    rintro m st ⟨u0u, u1u, rfl, h606⟩
    cases m with
    | zero => exact (onone h606).elim
    | succ m =>
      apply Wc.seq
      refine Wc.region [] [] [2, 6, 9, 10, 11, 12] [2] [] ⟨[(2, (.ptr 2 0, [])), (6, (.v (.slx), [(0, .ex 3 true (List.map cI.i64 u0u))])), (9, (.v (.sl (List.map cI.i64 vu)), [])), (10, (.v (.int .i64 (vu.length : Int)), [])), (11, (.v (.int .i64 u1u), [])), (12, (.v (.bool (decide (u1u < (vu.length : Int)))), []))], [(2, .cells (GTerm.q v9) [])], []⟩ _ (by kernel_rfl) .nil ?_
      apply Wc.seq
      rcases oif h606 with ⟨h607, h606⟩ | ⟨h607, h606⟩
      · refine Wc.condT h607 (by kernel_rfl) ?_
        refine Wc.fix (st' := ⟨[(2, (.ptr 2 0, [])), (6, (.v (.slx), [(0, .ex 3 true (List.map cI.i64 u0u))])), (9, (.v (.sl (List.map cI.i64 vu)), [])), (10, (.v (.int .i64 (vu.length : Int)), [])), (11, (.v (.int .i64 u1u), []))], [(2, .cells (GTerm.q v9) [])], []⟩) [] [2, 6, 9, 10, 11] [2] [] (by kernel_rfl) ?_
        refine Wc.skip ?_
        apply Wc.seq
        refine Wc.block ?_
        apply Wc.seq
        obtain ⟨u22, h608, h606⟩ := obind h606
        refine Wc.region [{ v := some (.vptr [.int .i64 u22]) }] [] [2, 6, 8, 9, 10, 11] [2] [] ⟨[(2, (.ptr 2 0, [])), (6, (.v (.slx), [(0, .ex 3 true (List.map cI.i64 u0u))])), (8, (.v (.int .i64 u22), [])), (9, (.v (.sl (List.map cI.i64 vu)), [])), (10, (.v (.int .i64 (vu.length : Int)), [])), (11, (.v (.int .i64 u1u), []))], [(2, .cells (GTerm.q v9) [])], []⟩ _ (by kernel_rfl) (.cons (at_obl (c := cI.i64) rfl cI.i64_len h608) (.cons (len_ok 1 [.int .i64 u22]) .nil)) ?_
        apply Wc.seq
        obtain ⟨ubw, h609, h606⟩ := obind h606
        refine Wc.region [{}, {}, { r := some (.v (.bool ubw) []) }] [] [2, 6, 8, 9, 10, 11, 18] [2] [] ⟨[(2, (.ptr 2 0, [])), (6, (.v (.slx), [(0, .ex 3 true (List.map cI.i64 u0u))])), (8, (.v (.int .i64 u22), [])), (9, (.v (.sl (List.map cI.i64 vu)), [])), (10, (.v (.int .i64 (vu.length : Int)), [])), (11, (.v (.int .i64 u1u), [])), (18, (.v (.bool (!ubw)), []))], [(2, .cells (GTerm.q v9) [])], []⟩ _ (by kernel_rfl) (.cons (cslices_Contains___int_int_ h609) .nil) ?_
        rcases oif h606 with ⟨h610, h606⟩ | ⟨h610, h606⟩
        · refine Wc.condT h610 (by kernel_rfl) ?_
          obtain ⟨h611, h606⟩ := oguard h606
          refine Wc.region [{ tk := [6] }, {}, { c := some (List.map cI.i64 [u22]) }, { c := some (List.map cI.i64 (u0u ++ [u22])), tk := [19], md := 2 }, { tk := [22] }] [] [2, 6, 9, 10, 11] [2] [] ⟨[(2, (.ptr 2 0, [])), (6, (.v (.slx), [(0, .ex 3 true (List.map cI.i64 (u0u ++ [u22])))])), (9, (.v (.sl (List.map cI.i64 vu)), [])), (10, (.v (.int .i64 (vu.length : Int)), [])), (11, (.v (.int .i64 u1u), []))], [(2, .cells (GTerm.q v9) [])], []⟩ _ (by kernel_rfl) (.cons (cl_cons (c := cI.i64) (x := u22) rfl (cl_nil cI.i64)) (.cons (app_re2 cI.i64 u0u [u22]) (.cons (app_scal (c := cI.i64) (ys := [u22]) cI.i64_scal) (.cons (app_obl2 (c := cI.i64) (xs := u0u) (ys := [u22]) cI.i64_len h611) .nil)))) ?_
          refine Wc.region [] [] [2, 6, 9, 10, 11] [2] [] ⟨[(2, (.ptr 2 0, [])), (6, (.v (.slx), [(0, .ex 3 true (List.map cI.i64 (u0u ++ [u22])))])), (9, (.v (.sl (List.map cI.i64 vu)), [])), (10, (.v (.int .i64 (vu.length : Int)), [])), (11, (.v (.int .i64 (wr.i64 (u1u + 1))), []))], [(2, .cells (GTerm.q v9) [])], []⟩ _ (by kernel_rfl) .nil ?_
          exact ⟨_, Nat.lt_succ_self _, _, _, rfl, h606⟩
        · refine Wc.condF h610 (by kernel_rfl) ?_
          refine Wc.fix (st' := ⟨[(2, (.ptr 2 0, [])), (6, (.v (.slx), [(0, .ex 3 true (List.map cI.i64 u0u))])), (9, (.v (.sl (List.map cI.i64 vu)), [])), (10, (.v (.int .i64 (vu.length : Int)), [])), (11, (.v (.int .i64 u1u), []))], [(2, .cells (GTerm.q v9) [])], []⟩) [] [2, 6, 9, 10, 11] [2] [] (by kernel_rfl) ?_
          refine Wc.skip ?_
          refine Wc.region [] [] [2, 6, 9, 10, 11] [2] [] ⟨[(2, (.ptr 2 0, [])), (6, (.v (.slx), [(0, .ex 3 true (List.map cI.i64 u0u))])), (9, (.v (.sl (List.map cI.i64 vu)), [])), (10, (.v (.int .i64 (vu.length : Int)), [])), (11, (.v (.int .i64 (wr.i64 (u1u + 1))), []))], [(2, .cells (GTerm.q v9) [])], []⟩ _ (by kernel_rfl) .nil ?_
          exact ⟨_, Nat.lt_succ_self _, _, _, rfl, h606⟩
      · refine Wc.condF h607 (by kernel_rfl) ?_
        refine Wc.fix (st' := ⟨[(2, (.ptr 2 0, [])), (6, (.v (.slx), [(0, .ex 3 true (List.map cI.i64 u0u))]))], [(2, .cells (GTerm.q v9) [])], []⟩) [] [2, 6] [2] [] (by kernel_rfl) ?_
        refine Wc.exit ?_
        obtain rfl := Option.some.inj h606
        exact ⟨_, rfl, rfl⟩
  · rintro st ⟨u4p, rfl, rfl⟩
    apply Wc.seq
    apply Wc.seq
    obtain ⟨ubx, h612, h⟩ := obind h
    refine Wc.region [{}, { r := some (.v (.bool ubx) []) }] [] [2, 6, 26] [2] [] ⟨[(2, (.ptr 2 0, [])), (6, (.v (.slx), [(0, .ex 3 true (List.map cI.i64 u4p))])), (26, (.v (.bool (!ubx)), []))], [(2, .cells (GTerm.q v9) [])], []⟩ _ (by kernel_rfl) (.cons (cimpl_TermOk h612) .nil) ?_
    rcases oif h with ⟨h613, h⟩ | ⟨h613, h⟩
    · refine Wc.condT h613 (by kernel_rfl) ?_
      apply Wc.seq
      refine Wc.region [{ tk := [6] }, {}, { tk := [27] }] [] [4, 5] [] [] ⟨[(4, (.v (.sl (List.map GIns.c [])), [(0, .app 158)])), (5, (.v (.slx), [(0, .ex 3 true (List.map cI.i64 u4p))]))], [], []⟩ _ (by kernel_rfl) .nil ?_
      refine Wc.fix (st' := ⟨[(4, (.v (.slx), [(0, .ex 158 true (List.map GIns.c []))])), (5, (.v (.slx), [(0, .ex 3 true (List.map cI.i64 u4p))]))], [], []⟩) [.ow (.t 4 0) true] [4, 5] [] [] (by kernel_rfl) ?_
      refine Wc.ret ?_
      obtain rfl := Option.some.inj h
      exact ⟨.inl rfl, by kernel_rfl, by kernel_rfl⟩
    · refine Wc.condF h613 (by kernel_rfl) ?_
      refine Wc.fix (st' := ⟨[(2, (.ptr 2 0, [])), (6, (.v (.slx), [(0, .ex 3 true (List.map cI.i64 u4p))]))], [(2, .cells (GTerm.q v9) [])], []⟩) [] [2, 6] [2] [] (by kernel_rfl) ?_
      refine Wc.skip ?_
      apply Wc.seq
      obtain ⟨u6k, h614, h⟩ := obind h
      refine Wc.region [{}, { tk := [6] }, { tk := [29], r := some (.v (.tup [.slx, .slx]) [(0, .ex 158 true (List.map GIns.c u6k.1)), (1, .ex 3 true (List.map cI.i64 u6k.2))]) }, { tk := [30] }, { tk := [30] }, { tk := [31] }, { tk := [32] }] [] [4, 5] [] [] ⟨[(4, (.v (.slx), [(0, .ex 158 true (List.map GIns.c u6k.1))])), (5, (.v (.slx), [(0, .ex 3 true (List.map cI.i64 u6k.2))]))], [], []⟩ _ (by kernel_rfl) (.cons (cimpl_wordsOf_d h614) .nil) ?_
      refine Wc.ret ?_
      obtain rfl := Option.some.inj h
      exact ⟨.inl rfl, by kernel_rfl, by kernel_rfl⟩

def pimpl_CodeOf_d (k : Nat) (u0v : GClause) : Option (GCode × Bool) :=
  (pimpl_TermOk k u0v.gHead).bind fun u5i =>
  if (!u5i) = true then
    some (GCode.mk [] [] 0, false)
  else
    (pimpl_TermOk k u0v.gBody).bind fun uby =>
    if (!uby) = true then
      some (GCode.mk [] [] 0, false)
    else
      (pimpl_WordsOf_d k u0v.gHead []).bind fun u5j =>
      (pimpl_WordsOf_d k u0v.gBody u5j.2).bind fun u8m =>
      (pimpl_varsUpTo k [u0v.gHead, u0v.gBody]).bind fun u0n =>
      some (GCode.mk u5j.1 u8m.1 u0n, true)
theorem cimpl_CodeOf_d {k : Nat} {u0v : GClause} {r : GCode × Bool} (h : pimpl_CodeOf_d k u0v = some r) : FnO Try.prog 28 [.v (.agg (GClause.q u0v)) []] (.v (.tup [.agg [.slx, .slx, .int .i64 r.1.gVars], .bool r.2]) [(0, .ex 158 true (List.map GIns.c r.1.gHead)), (1, .ex 158 true (List.map GIns.c r.1.gBody))]) [] := by
  refine FnO.of Try.func28 (rfl : Try.f28.body = some _) (Nat.le_of_ble_eq_true (by kernel_rfl)) (Nat.le_of_ble_eq_true (by kernel_rfl)) ?_
  intro w0 X0 Fin pv0 pb
  unfold pimpl_CodeOf_d at h
  apply Wc.seq
  refine Wc.region [] [] [1, 2] [1, 2] [] ⟨[(1, (.ptr 1 0, [])), (2, (.ptr 2 0, []))], [(1, .cells (GClause.q u0v) []), (2, .cells [.sl (List.map GIns.c []), .sl (List.map GIns.c []), .int .i64 0] [(0, .app 158), (1, .app 158)])], []⟩ _ (by kernel_rfl) .nil ?_
  apply Wc.seq
  apply Wc.seq
  obtain ⟨u5i, h603, h⟩ := obind h
  rcases oif h with ⟨h604, h⟩ | ⟨h604, h⟩
  · refine Wc.region [{}, {}, { r := some (.v (.bool u5i) []) }, {}, { re := some (.bool true) }] [] [1, 2, 17] [1, 2] [] ⟨[(1, (.ptr 1 0, [])), (2, (.ptr 2 0, [])), (17, (.v (.bool true), []))], [(1, .cells (GClause.q u0v) []), (2, .cells [.sl (List.map GIns.c []), .sl (List.map GIns.c []), .int .i64 0] [(0, .app 158), (1, .app 158)])], []⟩ _ (by kernel_rfl) (.cons (cimpl_TermOk h603) (.cons (congrArg AV.bool h604) .nil)) ?_
    refine Wc.condT rfl (by kernel_rfl) ?_
    apply Wc.seq
    refine Wc.region [{}, { tk := [18] }] [] [2, 3] [2] [] ⟨[(2, (.ptr 2 0, [])), (3, (.v (.bool false), []))], [(2, .cells [.sl (List.map GIns.c []), .sl (List.map GIns.c []), .int .i64 0] [(0, .app 158), (1, .app 158)])], []⟩ _ (by kernel_rfl) .nil ?_
    refine Wc.fix (st' := ⟨[(2, (.ptr 2 0, [])), (3, (.v (.bool false), []))], [(2, .cells [.slx, .slx, .int .i64 0] [(0, .ex 158 true (List.map GIns.c [])), (1, .ex 158 true (List.map GIns.c []))])], []⟩) [.ow (.b 2 0) true, .ow (.b 2 1) true] [2, 3] [2] [] (by kernel_rfl) ?_
    refine Wc.ret ?_
    obtain rfl := Option.some.inj h
    exact ⟨.inl rfl, by kernel_rfl, by kernel_rfl⟩
  · obtain ⟨uby, h605, h⟩ := obind h
    refine Wc.region [{}, {}, { r := some (.v (.bool u5i) []) }, {}, { re := some (.bool false) }, {}, {}, { r := some (.v (.bool uby) []) }] [] [1, 2, 17] [1, 2] [] ⟨[(1, (.ptr 1 0, [])), (2, (.ptr 2 0, [])), (17, (.v (.bool (!uby)), []))], [(1, .cells (GClause.q u0v) []), (2, .cells [.sl (List.map GIns.c []), .sl (List.map GIns.c []), .int .i64 0] [(0, .app 158), (1, .app 158)])], []⟩ _ (by kernel_rfl) (.cons (cimpl_TermOk h603) (.cons (congrArg AV.bool h604) (.cons (cimpl_TermOk h605) .nil))) ?_
    rcases oif h with ⟨h606, h⟩ | ⟨h606, h⟩
    · refine Wc.condT h606 (by kernel_rfl) ?_
      apply Wc.seq
      refine Wc.region [{}, { tk := [18] }] [] [2, 3] [2] [] ⟨[(2, (.ptr 2 0, [])), (3, (.v (.bool false), []))], [(2, .cells [.sl (List.map GIns.c []), .sl (List.map GIns.c []), .int .i64 0] [(0, .app 158), (1, .app 158)])], []⟩ _ (by kernel_rfl) .nil ?_
      refine Wc.fix (st' := ⟨[(2, (.ptr 2 0, [])), (3, (.v (.bool false), []))], [(2, .cells [.slx, .slx, .int .i64 0] [(0, .ex 158 true (List.map GIns.c [])), (1, .ex 158 true (List.map GIns.c []))])], []⟩) [.ow (.b 2 0) true, .ow (.b 2 1) true] [2, 3] [2] [] (by kernel_rfl) ?_
      refine Wc.ret ?_
      obtain rfl := Option.some.inj h
      exact ⟨.inl rfl, by kernel_rfl, by kernel_rfl⟩
    · refine Wc.condF h606 (by kernel_rfl) ?_
      refine Wc.fix (st' := ⟨[(1, (.ptr 1 0, [])), (2, (.ptr 2 0, []))], [(1, .cells (GClause.q u0v) []), (2, .cells [.sl (List.map GIns.c []), .sl (List.map GIns.c []), .int .i64 0] [(0, .app 158), (1, .app 158)])], []⟩) [] [1, 2] [1, 2] [] (by kernel_rfl) ?_
      refine Wc.skip ?_
      apply Wc.seq
      obtain ⟨u5j, h607, h⟩ := obind h
      refine Wc.region [{}, {}, { r := some (.v (.tup [.slx, .slx]) [(0, .ex 158 true (List.map GIns.c u5j.1)), (1, .ex 3 true (List.map cI.i64 u5j.2))]) }, { tk := [22] }, { tk := [19] }, { tk := [19] }, { tk := [23] }, { tk := [24] }] [] [1, 2, 4, 5] [1, 2] [] ⟨[(1, (.ptr 1 0, [])), (2, (.ptr 2 0, [])), (4, (.v (.slx), [(0, .ex 158 true (List.map GIns.c u5j.1))])), (5, (.v (.slx), [(0, .ex 3 true (List.map cI.i64 u5j.2))]))], [(1, .cells (GClause.q u0v) []), (2, .cells [.sl (List.map GIns.c []), .sl (List.map GIns.c []), .int .i64 0] [(0, .app 158), (1, .app 158)])], []⟩ _ (by kernel_rfl) (.cons (cimpl_WordsOf_d h607) .nil) ?_
      apply Wc.seq
      obtain ⟨u8m, h608, h⟩ := obind h
      refine Wc.region [{}, {}, { tk := [5] }, { r := some (.v (.tup [.slx, .slx]) [(0, .ex 158 true (List.map GIns.c u8m.1)), (1, .ex 3 true (List.map cI.i64 u8m.2))]) }, { tk := [29] }, { tk := [25] }, { tk := [25] }, { tk := [30] }, { tk := [31] }] [] [1, 2, 4, 6] [1, 2] [] ⟨[(1, (.ptr 1 0, [])), (2, (.ptr 2 0, [])), (4, (.v (.slx), [(0, .ex 158 true (List.map GIns.c u5j.1))])), (6, (.v (.slx), [(0, .ex 158 true (List.map GIns.c u8m.1))]))], [(1, .cells (GClause.q u0v) []), (2, .cells [.sl (List.map GIns.c []), .sl (List.map GIns.c []), .int .i64 0] [(0, .app 158), (1, .app 158)])], []⟩ _ (by kernel_rfl) (.cons (cimpl_WordsOf_d h608) .nil) ?_
      apply Wc.seq
      obtain ⟨u0n, h609, h⟩ := obind h
      refine Wc.region [{ tk := [4] }, { tk := [6] }, {}, {}, {}, {}, { c := some (List.map GTerm.c [u0v.gHead, u0v.gBody]) }, { r := some (.v (.int .i64 u0n) []) }, { tk := [32, 33] }, { tk := [40] }] [] [2, 3] [2] [] ⟨[(2, (.ptr 2 0, [])), (3, (.v (.bool true), []))], [(2, .cells [.slx, .slx, .int .i64 u0n] [(0, .ex 158 true (List.map GIns.c u5j.1)), (1, .ex 158 true (List.map GIns.c u8m.1))])], []⟩ _ (by kernel_rfl) (.cons (cl_cons (c := GTerm.c) (x := u0v.gHead) (GTerm.c_eq u0v.gHead) (cl_cons (c := GTerm.c) (x := u0v.gBody) (GTerm.c_eq u0v.gBody) (cl_nil GTerm.c))) (.cons (cimpl_varsUpTo h609) .nil)) ?_
      refine Wc.ret ?_
      obtain rfl := Option.some.inj h
      exact ⟨.inl rfl, by kernel_rfl, by kernel_rfl⟩

def pimpl_copyClause_d (k : Nat) (u66 : GClause) : Option GClause :=
  (pimpl_copyTerm_d k u66.gHead).bind fun u06 =>
  (pimpl_copyTerm_d k u66.gBody).bind fun uu =>
  some (GClause.mk u06 uu u66.gFile)
theorem cimpl_copyClause_d {k : Nat} {u66 : GClause} {r : GClause} (h : pimpl_copyClause_d k u66 = some r) : FnO Try.prog 98 [.v (.agg (GClause.q u66)) []] (.v (.agg (GClause.qx r)) [(3, .ex 42 true (List.map GTerm.c r.gHead.gKids)), (7, .ex 42 true (List.map GTerm.c r.gBody.gKids))]) [] := by
  refine FnO.of Try.func98 (rfl : Try.f98.body = some _) (Nat.le_of_ble_eq_true (by kernel_rfl)) (Nat.le_of_ble_eq_true (by kernel_rfl)) ?_
  intro w0 X0 Fin pv0 pb
  unfold pimpl_copyClause_d at h
  apply Wc.seq
  refine Wc.region [] [] [1, 2] [1, 2] [] ⟨[(1, (.ptr 1 0, [])), (2, (.ptr 2 0, []))], [(1, .cells (GClause.q u66) []), (2, .cells [.int .i64 0, .str (bs []), .int .i64 0, .sl (List.map GTerm.c []), .int .i64 0, .str (bs []), .int .i64 0, .sl (List.map GTerm.c []), .str (bs [])] [(3, .app 42), (7, .app 42)])], []⟩ _ (by kernel_rfl) .nil ?_
  apply Wc.seq
  obtain ⟨u06, h599, h⟩ := obind h
  obtain ⟨uu, h600, h⟩ := obind h
  refine Wc.draw hmix [{}, {}, { r := some (.v (.agg (GTerm.qx u06)) [(3, .ex 42 true (List.map GTerm.c u06.gKids))]) }, {}, {}, { r := some (.v (.agg (GTerm.qx uu)) [(3, .ex 42 true (List.map GTerm.c uu.gKids))]) }, {}, {}, { tk := [5, 8] }, { tk := [11] }] [] [2] [2] [] ⟨[(2, (.ptr 2 0, []))], [(2, .cells [.int .i64 u06.gKind, .str u06.gName, .int .i64 u06.gNum, .slx, .int .i64 uu.gKind, .str uu.gName, .int .i64 uu.gNum, .slx, .str u66.gFile] [(3, .ex 42 true (List.map GTerm.c u06.gKids)), (7, .ex 42 true (List.map GTerm.c uu.gKids))])], []⟩ _ (by kernel_rfl) (fun X => by kernel_rfl) (.cons (cimpl_copyTerm_d h599) (.cons (cimpl_copyTerm_d h600) .nil)) ?_
  refine Wc.ret ?_
  obtain rfl := Option.some.inj h
  exact ⟨.inl rfl, by kernel_rfl, by kernel_rfl⟩

def plaws_toDb_d (k : Nat) (u42 : GDb) : Option GDb :=
  (plaws_toClauseS_d k u42.gClauses).bind fun u8n =>
  (plaws_toStringS_d k u42.gOpen).bind fun uab =>
  some (GDb.mk u8n uab)
theorem claws_toDb_d {k : Nat} {u42 : GDb} {r : GDb} (h : plaws_toDb_d k u42 = some r) : FnO Try.prog 11 [.v (.agg (GDb.q u42)) []] (.v (.agg [.slx, .slx]) [(0, .ex 66 true (List.map GClause.c r.gClauses)), (1, .ex 9 true (List.map cS r.gOpen))]) [] := by
  refine FnO.of Try.func11 (rfl : Try.f11.body = some _) (Nat.le_of_ble_eq_true (by kernel_rfl)) (Nat.le_of_ble_eq_true (by kernel_rfl)) ?_
  intro w0 X0 Fin pv0 pb
  unfold plaws_toDb_d at h
  apply Wc.seq
  refine Wc.region [] [] [1, 2] [1, 2] [] ⟨[(1, (.ptr 1 0, [])), (2, (.ptr 2 0, []))], [(1, .cells (GDb.q u42) []), (2, .cells [.sl (List.map GClause.c []), .sl (List.map cS [])] [(0, .app 66), (1, .app 9)])], []⟩ _ (by kernel_rfl) .nil ?_
  apply Wc.seq
  refine Wc.region [] [] [1, 2, 3] [1, 2, 3] [] ⟨[(1, (.ptr 1 0, [])), (2, (.ptr 2 0, [])), (3, (.ptr 3 0, []))], [(1, .cells (GDb.q u42) []), (2, .cells [.sl (List.map GClause.c []), .sl (List.map cS [])] [(0, .app 66), (1, .app 9)]), (3, .cells [.sl (List.map GClause.c []), .sl (List.map cS [])] [(0, .app 66), (1, .app 9)])], []⟩ _ (by kernel_rfl) .nil ?_
  apply Wc.seq
  obtain ⟨u8n, h599, h⟩ := obind h
  refine Wc.region [{}, {}, { r := some (.v (.slx) [(0, .ex 66 true (List.map GClause.c u8n))]) }, {}, { tk := [6] }] [.so 3] [1, 2, 3] [1, 2, 3] [] ⟨[(1, (.ptr 1 0, [])), (2, (.ptr 2 0, [])), (3, (.ptr 3 0, []))], [(1, .cells (GDb.q u42) []), (2, .cells [.sl (List.map GClause.c []), .sl (List.map cS [])] [(0, .app 66), (1, .app 9)]), (3, .cells [.slx, .sl (List.map cS [])] [(0, .ex 66 true (List.map GClause.c u8n)), (1, .app 9)])], []⟩ _ (by kernel_rfl) (.cons (claws_toClauseS_d h599) .nil) ?_
  apply Wc.seq
  obtain ⟨uab, h600, h⟩ := obind h
  refine Wc.region [{}, {}, { r := some (.v (.slx) [(0, .ex 9 true (List.map cS uab))]) }, {}, { tk := [10] }] [] [2, 3] [2, 3] [] ⟨[(2, (.ptr 2 0, [])), (3, (.ptr 3 0, []))], [(2, .cells [.sl (List.map GClause.c []), .sl (List.map cS [])] [(0, .app 66), (1, .app 9)]), (3, .cells [.slx, .slx] [(0, .ex 66 true (List.map GClause.c u8n)), (1, .ex 9 true (List.map cS uab))])], []⟩ _ (by kernel_rfl) (.cons (claws_toStringS_d h600) .nil) ?_
  apply Wc.seq
  refine Wc.region [{ md := 1 }, { tk := [12] }] [] [2] [2] [] ⟨[(2, (.ptr 2 0, []))], [(2, .cells [.slx, .slx] [(0, .ex 66 true (List.map GClause.c u8n)), (1, .ex 9 true (List.map cS uab))])], []⟩ _ (by kernel_rfl) .nil ?_
  refine Wc.ret ?_
  obtain rfl := Option.some.inj h
  exact ⟨.inl rfl, by kernel_rfl, by kernel_rfl⟩
end Go.Proofs.Ytgfpmdaihkdhkaa

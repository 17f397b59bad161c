/- What the functions do, part 2. -/
import Derived.Test.YtgfpmdaihkdhkaaFna
set_option linter.unusedVariables false
set_option linter.unusedSimpArgs false
namespace Go.Proofs.Ytgfpmdaihkdhkaa
open Go.RowKit Go.Bv
def pimpl_termAt_L1 (k : Nat) (rimpl_termAt : GHeap → Int → Int → Int → Option (Int × GTerm × Bool)) (c183_ : GCell) (e178_ : GHeap) (b180_ : Int) : Nat → Int → GTerm → Int → Option (Out (Int × GTerm × Bool) (GTerm × Int))
  | 0, _, _, _ => none
  | m + 1, b184_, i185_, b186_ =>
    if (decide (b184_ < (c183_.gKids.length : Int))) = true then
      (at' c183_.gKids b184_).bind fun b189_ =>
      (rimpl_termAt e178_ b189_ (wr.i64 (b180_ + 1)) b186_).bind fun q190_ =>
      if (!q190_.2.2) = true then
        some (.ret (q190_.1, GTerm.mk 0 (bs []) 0 [], false))
      else
        if i185_.gKids.length + [GTerm.mk q190_.2.1.gKind q190_.2.1.gName q190_.2.1.gNum q190_.2.1.gKids].length ≤ 1073741824 then
          pimpl_termAt_L1 k rimpl_termAt c183_ e178_ b180_ m (wr.i64 (b184_ + 1)) (GTerm.mk i185_.gKind i185_.gName i185_.gNum (i185_.gKids ++ [GTerm.mk q190_.2.1.gKind q190_.2.1.gName q190_.2.1.gNum q190_.2.1.gKids])) q190_.1
        else none
    else
      some (.done (i185_, b186_))
mutual
/-- impl.termAt -/
def pimpl_termAt : Nat → GHeap → Int → Int → Int → Option (Int × GTerm × Bool)
  | 0, _, _, _, _ => none
  | k + 1, e178_, b179_, b180_, b181_ =>
    (pimpl_follow k e178_ b179_).bind fun b182_ =>
    if (decide (b182_ < 0)) = true then
      some (wr.i64 (b181_ - 1), GTerm.mk 0 (bs []) 0 [], false)
    else
      if (decide (b180_ > 40)) = true then
        some (wr.i64 (b181_ - 1), GTerm.mk 0 (bs []) 0 [], false)
      else
        if (decide ((wr.i64 (b181_ - 1)) < 0)) = true then
          some (wr.i64 (b181_ - 1), GTerm.mk 0 (bs []) 0 [], false)
        else
          (at' e178_.gCells b182_).bind fun c183_ =>
          (pimpl_termAt_L1 k (pimpl_termAt k) c183_ e178_ b180_ k 0 (GTerm.mk (mget (mset (mset (mset (mset [] 1 1) 2 2) 3 3) 4 4) c183_.gKind) c183_.gName c183_.gNum []) (wr.i64 (b181_ - 1))).bind fun out1 => match out1 with
          | .ret r => some r
          | .done (i187_, b188_) =>
            some (b188_, i187_, true)
end
set_option maxHeartbeats 4000000 in
theorem all_pimpl_termAt : ∀ k : Nat, (∀ {e178_ : GHeap} {b179_ : Int} {b180_ : Int} {b181_ : Int} {r : Int × GTerm × Bool}, pimpl_termAt k e178_ b179_ b180_ b181_ = some r → FnO Try.prog 117 [.v (.agg [.sl (List.map GCell.c e178_.gCells), .sl (List.map cI.i64 e178_.gTrail)]) [], .v (.int .i64 b179_) [], .v (.int .i64 b180_) [], .p [.int .i64 b181_] []] (.v (.tup [.agg [.int .i64 r.2.1.gKind, .str r.2.1.gName, .int .i64 r.2.1.gNum, .sl (List.map GTerm.c r.2.1.gKids)], .bool r.2.2]) [(3, .app 42)]) [(3, .p [.int .i64 r.1] [])]) := by
  intro k
  induction k with
  | zero =>
    · intro e178_ b179_ b180_ b181_ r h
      exact (onone (by rw [pimpl_termAt] at h; exact h)).elim
  | succ k ih =>
    have ih_pimpl_termAt := @ih
    · intro e178_ b179_ b180_ b181_ r h
      rw [pimpl_termAt] at h
      refine FnO.of Try.func117 (rfl : Try.f117.body = some _) (Nat.le_of_ble_eq_true (by kernel_rfl)) (Nat.le_of_ble_eq_true (by kernel_rfl)) ?_
      intro w0 X0 Fin pv0 pb
      refine Wc.seq ?_
      refine Wc.region [] [] [1, 2, 3, 4, 8] [4, 8, 1000003] [] ⟨[(1, (.v (.int .i64 b179_), [])), (2, (.v (.int .i64 b180_), [])), (3, (.ptr 1000003 0, [])), (4, (.ptr 4 0, [])), (8, (.ptr 8 0, []))], [(4, .cells [.sl (List.map GCell.c e178_.gCells), .sl (List.map cI.i64 e178_.gTrail)] []), (8, .cells [.int .i64 0, .str (bs []), .int .i64 0, .sl (List.map GTerm.c [])] [(3, .app 42)]), (1000003, .cells [.int .i64 b181_] [])], []⟩ _ (by kernel_rfl) .nil ?_
      refine Wc.seq ?_
      obtain ⟨b182_, h226, h⟩ := obind h
      refine Wc.region [{}, {}, { r := some (.v (.int .i64 b182_) []) }] [] [1, 2, 3, 4, 8] [4, 8, 1000003] [] ⟨[(1, (.v (.int .i64 b182_), [])), (2, (.v (.int .i64 b180_), [])), (3, (.ptr 1000003 0, [])), (4, (.ptr 4 0, [])), (8, (.ptr 8 0, []))], [(4, .cells [.sl (List.map GCell.c e178_.gCells), .sl (List.map cI.i64 e178_.gTrail)] []), (8, .cells [.int .i64 0, .str (bs []), .int .i64 0, .sl (List.map GTerm.c [])] [(3, .app 42)]), (1000003, .cells [.int .i64 b181_] [])], []⟩ _ (by kernel_rfl) (.cons (cimpl_follow h226) .nil) ?_
      refine Wc.seq ?_
      refine Wc.region [] [] [1, 2, 3, 4, 8] [4, 8, 1000003] [] ⟨[(1, (.v (.int .i64 b182_), [])), (2, (.v (.int .i64 b180_), [])), (3, (.ptr 1000003 0, [])), (4, (.ptr 4 0, [])), (8, (.ptr 8 0, []))], [(4, .cells [.sl (List.map GCell.c e178_.gCells), .sl (List.map cI.i64 e178_.gTrail)] []), (8, .cells [.int .i64 0, .str (bs []), .int .i64 0, .sl (List.map GTerm.c [])] [(3, .app 42)]), (1000003, .cells [.int .i64 (wr.i64 (b181_ - 1))] [])], []⟩ _ (by kernel_rfl) .nil ?_
      refine Wc.seq ?_
      refine Wc.seq ?_
      rcases oif h with ⟨h227, h⟩ | ⟨h227, h⟩
      · refine Wc.region [{}, {}, { re := some (.bool true) }] [] [1, 2, 3, 4, 8, 36] [4, 8, 1000003] [] ⟨[(1, (.v (.int .i64 b182_), [])), (2, (.v (.int .i64 b180_), [])), (3, (.ptr 1000003 0, [])), (4, (.ptr 4 0, [])), (8, (.ptr 8 0, [])), (36, (.v (.bool true), []))], [(4, .cells [.sl (List.map GCell.c e178_.gCells), .sl (List.map cI.i64 e178_.gTrail)] []), (8, .cells [.int .i64 0, .str (bs []), .int .i64 0, .sl (List.map GTerm.c [])] [(3, .app 42)]), (1000003, .cells [.int .i64 (wr.i64 (b181_ - 1))] [])], []⟩ _ (by kernel_rfl) (.cons (congrArg AV.bool h227) .nil) ?_
        refine Wc.condT rfl (by kernel_rfl) ?_
        refine Wc.seq ?_
        refine Wc.region [{}, { tk := [37] }] [] [8, 9] [8, 1000003] [] ⟨[(8, (.ptr 8 0, [])), (9, (.v (.bool false), []))], [(8, .cells [.int .i64 0, .str (bs []), .int .i64 0, .sl (List.map GTerm.c [])] [(3, .app 42)]), (1000003, .cells [.int .i64 (wr.i64 (b181_ - 1))] [])], []⟩ _ (by kernel_rfl) .nil ?_
        refine Wc.ret ?_
        obtain rfl := Option.some.inj h
        exact ⟨.inl rfl, by kernel_rfl, by kernel_rfl⟩
      · rcases oif h with ⟨h228, h⟩ | ⟨h228, h⟩
        · refine Wc.region [{}, {}, { re := some (.bool false) }, {}, {}, {}, { re := some (.bool true) }] [] [1, 2, 3, 4, 8, 36] [4, 8, 1000003] [] ⟨[(1, (.v (.int .i64 b182_), [])), (2, (.v (.int .i64 b180_), [])), (3, (.ptr 1000003 0, [])), (4, (.ptr 4 0, [])), (8, (.ptr 8 0, [])), (36, (.v (.bool true), []))], [(4, .cells [.sl (List.map GCell.c e178_.gCells), .sl (List.map cI.i64 e178_.gTrail)] []), (8, .cells [.int .i64 0, .str (bs []), .int .i64 0, .sl (List.map GTerm.c [])] [(3, .app 42)]), (1000003, .cells [.int .i64 (wr.i64 (b181_ - 1))] [])], []⟩ _ (by kernel_rfl) (.cons (congrArg AV.bool h227) (.cons (congrArg AV.bool h228) .nil)) ?_
          refine Wc.condT rfl (by kernel_rfl) ?_
          refine Wc.seq ?_
          refine Wc.region [{}, { tk := [37] }] [] [8, 9] [8, 1000003] [] ⟨[(8, (.ptr 8 0, [])), (9, (.v (.bool false), []))], [(8, .cells [.int .i64 0, .str (bs []), .int .i64 0, .sl (List.map GTerm.c [])] [(3, .app 42)]), (1000003, .cells [.int .i64 (wr.i64 (b181_ - 1))] [])], []⟩ _ (by kernel_rfl) .nil ?_
          refine Wc.ret ?_
          obtain rfl := Option.some.inj h
          exact ⟨.inl rfl, by kernel_rfl, by kernel_rfl⟩
        · refine Wc.region [{}, {}, { re := some (.bool false) }, {}, {}, {}, { re := some (.bool false) }] [] [1, 2, 3, 4, 8, 36] [4, 8, 1000003] [] ⟨[(1, (.v (.int .i64 b182_), [])), (2, (.v (.int .i64 b180_), [])), (3, (.ptr 1000003 0, [])), (4, (.ptr 4 0, [])), (8, (.ptr 8 0, [])), (36, (.v (.bool (decide ((wr.i64 (b181_ - 1)) < 0))), []))], [(4, .cells [.sl (List.map GCell.c e178_.gCells), .sl (List.map cI.i64 e178_.gTrail)] []), (8, .cells [.int .i64 0, .str (bs []), .int .i64 0, .sl (List.map GTerm.c [])] [(3, .app 42)]), (1000003, .cells [.int .i64 (wr.i64 (b181_ - 1))] [])], []⟩ _ (by kernel_rfl) (.cons (congrArg AV.bool h227) (.cons (congrArg AV.bool h228) .nil)) ?_
          rcases oif h with ⟨h229, h⟩ | ⟨h229, h⟩
          · refine Wc.condT h229 (by kernel_rfl) ?_
            refine Wc.seq ?_
            refine Wc.region [{}, { tk := [37] }] [] [8, 9] [8, 1000003] [] ⟨[(8, (.ptr 8 0, [])), (9, (.v (.bool false), []))], [(8, .cells [.int .i64 0, .str (bs []), .int .i64 0, .sl (List.map GTerm.c [])] [(3, .app 42)]), (1000003, .cells [.int .i64 (wr.i64 (b181_ - 1))] [])], []⟩ _ (by kernel_rfl) .nil ?_
            refine Wc.ret ?_
            obtain rfl := Option.some.inj h
            exact ⟨.inl rfl, by kernel_rfl, by kernel_rfl⟩
          · refine Wc.condF h229 (by kernel_rfl) ?_
            refine Wc.fix (st' := ⟨[(1, (.v (.int .i64 b182_), [])), (2, (.v (.int .i64 b180_), [])), (3, (.ptr 1000003 0, [])), (4, (.ptr 4 0, [])), (8, (.ptr 8 0, []))], [(4, .cells [.sl (List.map GCell.c e178_.gCells), .sl (List.map cI.i64 e178_.gTrail)] []), (8, .cells [.int .i64 0, .str (bs []), .int .i64 0, .sl (List.map GTerm.c [])] [(3, .app 42)]), (1000003, .cells [.int .i64 (wr.i64 (b181_ - 1))] [])], []⟩) [] [1, 2, 3, 4, 8] [4, 8, 1000003] [] (by kernel_rfl) ?_
            refine Wc.skip ?_
            refine Wc.seq ?_
            obtain ⟨c183_, h230, h⟩ := obind h
            refine Wc.region [{}, {}, {}, { v := some (.vptr [.int .i64 c183_.gKind, .str c183_.gName, .int .i64 c183_.gNum, .int .i64 c183_.gTo, .sl (List.map cI.i64 c183_.gKids)]) }] [] [2, 3, 4, 8, 10] [4, 8, 10, 1000003] [] ⟨[(2, (.v (.int .i64 b180_), [])), (3, (.ptr 1000003 0, [])), (4, (.ptr 4 0, [])), (8, (.ptr 8 0, [])), (10, (.ptr 10 0, []))], [(4, .cells [.sl (List.map GCell.c e178_.gCells), .sl (List.map cI.i64 e178_.gTrail)] []), (8, .cells [.int .i64 0, .str (bs []), .int .i64 0, .sl (List.map GTerm.c [])] [(3, .app 42)]), (10, .cells [.int .i64 c183_.gKind, .str c183_.gName, .int .i64 c183_.gNum, .int .i64 c183_.gTo, .sl (List.map cI.i64 c183_.gKids)] []), (1000003, .cells [.int .i64 (wr.i64 (b181_ - 1))] [])], []⟩ _ (by kernel_rfl) (.cons (at_obl (c := GCell.c) (GCell.c_eq c183_) GCell.c_len h230) (.cons (len_ok 5 [.int .i64 c183_.gKind, .str c183_.gName, .int .i64 c183_.gNum, .int .i64 c183_.gTo, .sl (List.map cI.i64 c183_.gKids)]) .nil)) ?_
            refine Wc.seq ?_
            refine Wc.region [{}, { c := some [mgk (mset [] 1 1), mgv (mset [] 1 1)] }, { c := some [mgk (mset (mset [] 1 1) 2 2), mgv (mset (mset [] 1 1) 2 2)] }, { c := some [mgk (mset (mset (mset [] 1 1) 2 2) 3 3), mgv (mset (mset (mset [] 1 1) 2 2) 3 3)] }, { c := some [mgk (mset (mset (mset (mset [] 1 1) 2 2) 3 3) 4 4), mgv (mset (mset (mset (mset [] 1 1) 2 2) 3 3) 4 4)] }] [] [2, 3, 4, 8, 10, 11] [4, 8, 10, 43, 1000003] [] ⟨[(2, (.v (.int .i64 b180_), [])), (3, (.ptr 1000003 0, [])), (4, (.ptr 4 0, [])), (8, (.ptr 8 0, [])), (10, (.ptr 10 0, [])), (11, (.mp 43, []))], [(4, .cells [.sl (List.map GCell.c e178_.gCells), .sl (List.map cI.i64 e178_.gTrail)] []), (8, .cells [.int .i64 0, .str (bs []), .int .i64 0, .sl (List.map GTerm.c [])] [(3, .app 42)]), (10, .cells [.int .i64 c183_.gKind, .str c183_.gName, .int .i64 c183_.gNum, .int .i64 c183_.gTo, .sl (List.map cI.i64 c183_.gKids)] []), (43, .map (mgk (mset (mset (mset (mset [] 1 1) 2 2) 3 3) 4 4)) (mgv (mset (mset (mset (mset [] 1 1) 2 2) 3 3) 4 4))), (1000003, .cells [.int .i64 (wr.i64 (b181_ - 1))] [])], []⟩ _ (by kernel_rfl) (.cons (mapset_obl [] 1 1) (.cons (mapset_obl (mset [] 1 1) 2 2) (.cons (mapset_obl (mset (mset [] 1 1) 2 2) 3 3) (.cons (mapset_obl (mset (mset (mset [] 1 1) 2 2) 3 3) 4 4) .nil)))) ?_
            refine Wc.seq ?_
            refine Wc.region [{}, {}, {}, { v := some (.int .i64 (mget (mset (mset (mset (mset [] 1 1) 2 2) 3 3) 4 4) c183_.gKind)) }, {}, {}, {}, {}, {}, {}, { tk := [53] }] [] [2, 3, 4, 8, 10, 12] [4, 8, 10, 12, 1000003] [] ⟨[(2, (.v (.int .i64 b180_), [])), (3, (.ptr 1000003 0, [])), (4, (.ptr 4 0, [])), (8, (.ptr 8 0, [])), (10, (.ptr 10 0, [])), (12, (.ptr 12 0, []))], [(4, .cells [.sl (List.map GCell.c e178_.gCells), .sl (List.map cI.i64 e178_.gTrail)] []), (8, .cells [.int .i64 0, .str (bs []), .int .i64 0, .sl (List.map GTerm.c [])] [(3, .app 42)]), (10, .cells [.int .i64 c183_.gKind, .str c183_.gName, .int .i64 c183_.gNum, .int .i64 c183_.gTo, .sl (List.map cI.i64 c183_.gKids)] []), (12, .cells [.int .i64 (mget (mset (mset (mset (mset [] 1 1) 2 2) 3 3) 4 4) c183_.gKind), .str c183_.gName, .int .i64 c183_.gNum, .sl (List.map GTerm.c [])] [(3, .app 42)]), (1000003, .cells [.int .i64 (wr.i64 (b181_ - 1))] [])], []⟩ _ (by kernel_rfl) (.cons (mapget_obl (mset (mset (mset (mset [] 1 1) 2 2) 3 3) 4 4) c183_.gKind) .nil) ?_
            refine Wc.seq ?_
            refine Wc.seq ?_
            refine Wc.region [{}, {}, { v := some (.int .i64 (c183_.gKids.length : Int)) }] [] [2, 3, 4, 8, 12, 55, 56, 57] [4, 8, 12, 1000003] [] ⟨[(2, (.v (.int .i64 b180_), [])), (3, (.ptr 1000003 0, [])), (4, (.ptr 4 0, [])), (8, (.ptr 8 0, [])), (12, (.ptr 12 0, [])), (55, (.v (.sl (List.map cI.i64 c183_.gKids)), [])), (56, (.v (.int .i64 (c183_.gKids.length : Int)), [])), (57, (.v (.int .i64 0), []))], [(4, .cells [.sl (List.map GCell.c e178_.gCells), .sl (List.map cI.i64 e178_.gTrail)] []), (8, .cells [.int .i64 0, .str (bs []), .int .i64 0, .sl (List.map GTerm.c [])] [(3, .app 42)]), (12, .cells [.int .i64 (mget (mset (mset (mset (mset [] 1 1) 2 2) 3 3) 4 4) c183_.gKind), .str c183_.gName, .int .i64 c183_.gNum, .sl (List.map GTerm.c [])] [(3, .app 42)]), (1000003, .cells [.int .i64 (wr.i64 (b181_ - 1))] [])], []⟩ _ (by kernel_rfl) (.cons (len_obl cI.i64 c183_.gKids) .nil) ?_
            obtain ⟨out1, h231, h⟩ := obind h
            refine Wc.lastJ (fun st => ∃ (i187_ : GTerm) (b188_ : Int), out1 = .done (i187_, b188_) ∧ st = ⟨[(8, (.ptr 8 0, [])), (12, (.ptr 12 0, []))], [(8, .cells [.int .i64 0, .str (bs []), .int .i64 0, .sl (List.map GTerm.c [])] [(3, .app 42)]), (12, .cells [.int .i64 i187_.gKind, .str i187_.gName, .int .i64 i187_.gNum, .sl (List.map GTerm.c i187_.gKids)] [(3, .app 42)]), (1000003, .cells [.int .i64 b188_] [])], []⟩) ?_ ?_
            · refine Wc.block ?_
              refine Wc.loop (fun m st => ∃ (b184_ : Int) (i185_ : GTerm) (b186_ : Int), st = ⟨[(2, (.v (.int .i64 b180_), [])), (3, (.ptr 1000003 0, [])), (4, (.ptr 4 0, [])), (8, (.ptr 8 0, [])), (12, (.ptr 12 0, [])), (55, (.v (.sl (List.map cI.i64 c183_.gKids)), [])), (56, (.v (.int .i64 (c183_.gKids.length : Int)), [])), (57, (.v (.int .i64 b184_), []))], [(4, .cells [.sl (List.map GCell.c e178_.gCells), .sl (List.map cI.i64 e178_.gTrail)] []), (8, .cells [.int .i64 0, .str (bs []), .int .i64 0, .sl (List.map GTerm.c [])] [(3, .app 42)]), (12, .cells [.int .i64 i185_.gKind, .str i185_.gName, .int .i64 i185_.gNum, .sl (List.map GTerm.c i185_.gKids)] [(3, .app 42)]), (1000003, .cells [.int .i64 b186_] [])], []⟩ ∧ pimpl_termAt_L1 k (pimpl_termAt k) c183_ e178_ b180_ m b184_ i185_ b186_ = some out1) ?_ k ⟨_, _, _, rfl, h231⟩
              rintro m st ⟨b184_, i185_, b186_, rfl, h231⟩
              cases m with
              | zero => exact (onone h231).elim
              | succ m =>
                refine Wc.seq ?_
                refine Wc.region [] [] [2, 3, 4, 8, 12, 55, 56, 57, 58] [4, 8, 12, 1000003] [] ⟨[(2, (.v (.int .i64 b180_), [])), (3, (.ptr 1000003 0, [])), (4, (.ptr 4 0, [])), (8, (.ptr 8 0, [])), (12, (.ptr 12 0, [])), (55, (.v (.sl (List.map cI.i64 c183_.gKids)), [])), (56, (.v (.int .i64 (c183_.gKids.length : Int)), [])), (57, (.v (.int .i64 b184_), [])), (58, (.v (.bool (decide (b184_ < (c183_.gKids.length : Int)))), []))], [(4, .cells [.sl (List.map GCell.c e178_.gCells), .sl (List.map cI.i64 e178_.gTrail)] []), (8, .cells [.int .i64 0, .str (bs []), .int .i64 0, .sl (List.map GTerm.c [])] [(3, .app 42)]), (12, .cells [.int .i64 i185_.gKind, .str i185_.gName, .int .i64 i185_.gNum, .sl (List.map GTerm.c i185_.gKids)] [(3, .app 42)]), (1000003, .cells [.int .i64 b186_] [])], []⟩ _ (by kernel_rfl) .nil ?_
                refine Wc.seq ?_
                rcases oif h231 with ⟨h232, h231⟩ | ⟨h232, h231⟩
                · refine Wc.condT h232 (by kernel_rfl) ?_
                  refine Wc.fix (st' := ⟨[(2, (.v (.int .i64 b180_), [])), (3, (.ptr 1000003 0, [])), (4, (.ptr 4 0, [])), (8, (.ptr 8 0, [])), (12, (.ptr 12 0, [])), (55, (.v (.sl (List.map cI.i64 c183_.gKids)), [])), (56, (.v (.int .i64 (c183_.gKids.length : Int)), [])), (57, (.v (.int .i64 b184_), []))], [(4, .cells [.sl (List.map GCell.c e178_.gCells), .sl (List.map cI.i64 e178_.gTrail)] []), (8, .cells [.int .i64 0, .str (bs []), .int .i64 0, .sl (List.map GTerm.c [])] [(3, .app 42)]), (12, .cells [.int .i64 i185_.gKind, .str i185_.gName, .int .i64 i185_.gNum, .sl (List.map GTerm.c i185_.gKids)] [(3, .app 42)]), (1000003, .cells [.int .i64 b186_] [])], []⟩) [] [2, 3, 4, 8, 12, 55, 56, 57] [4, 8, 12, 1000003] [] (by kernel_rfl) ?_
                  refine Wc.skip ?_
                  refine Wc.seq ?_
                  refine Wc.block ?_
                  refine Wc.seq ?_
                  obtain ⟨b189_, h233, h231⟩ := obind h231
                  refine Wc.region [{ v := some (.vptr [.int .i64 b189_]) }] [] [2, 3, 4, 8, 12, 14, 55, 56, 57] [4, 8, 12, 1000003] [] ⟨[(2, (.v (.int .i64 b180_), [])), (3, (.ptr 1000003 0, [])), (4, (.ptr 4 0, [])), (8, (.ptr 8 0, [])), (12, (.ptr 12 0, [])), (14, (.v (.int .i64 b189_), [])), (55, (.v (.sl (List.map cI.i64 c183_.gKids)), [])), (56, (.v (.int .i64 (c183_.gKids.length : Int)), [])), (57, (.v (.int .i64 b184_), []))], [(4, .cells [.sl (List.map GCell.c e178_.gCells), .sl (List.map cI.i64 e178_.gTrail)] []), (8, .cells [.int .i64 0, .str (bs []), .int .i64 0, .sl (List.map GTerm.c [])] [(3, .app 42)]), (12, .cells [.int .i64 i185_.gKind, .str i185_.gName, .int .i64 i185_.gNum, .sl (List.map GTerm.c i185_.gKids)] [(3, .app 42)]), (1000003, .cells [.int .i64 b186_] [])], []⟩ _ (by kernel_rfl) (.cons (at_obl (c := cI.i64) rfl cI.i64_len h233) (.cons (len_ok 1 [.int .i64 b189_]) .nil)) ?_
                  refine Wc.seq ?_
                  obtain ⟨q190_, h234, h231⟩ := obind h231
                  refine Wc.region [{}, {}, {}, {}, {}, { r := some (.v (.tup [.agg [.int .i64 q190_.2.1.gKind, .str q190_.2.1.gName, .int .i64 q190_.2.1.gNum, .sl (List.map GTerm.c q190_.2.1.gKids)], .bool q190_.2.2]) [(3, .app 42)]), outs := [(3, .p [.int .i64 q190_.1] [])] }, { tk := [67] }, { tk := [61] }, {}, {}, { tk := [68] }] [] [2, 3, 4, 8, 12, 15, 16, 55, 56, 57] [4, 8, 12, 15, 1000003] [] ⟨[(2, (.v (.int .i64 b180_), [])), (3, (.ptr 1000003 0, [])), (4, (.ptr 4 0, [])), (8, (.ptr 8 0, [])), (12, (.ptr 12 0, [])), (15, (.ptr 15 0, [])), (16, (.v (.bool q190_.2.2), [])), (55, (.v (.sl (List.map cI.i64 c183_.gKids)), [])), (56, (.v (.int .i64 (c183_.gKids.length : Int)), [])), (57, (.v (.int .i64 b184_), []))], [(4, .cells [.sl (List.map GCell.c e178_.gCells), .sl (List.map cI.i64 e178_.gTrail)] []), (8, .cells [.int .i64 0, .str (bs []), .int .i64 0, .sl (List.map GTerm.c [])] [(3, .app 42)]), (12, .cells [.int .i64 i185_.gKind, .str i185_.gName, .int .i64 i185_.gNum, .sl (List.map GTerm.c i185_.gKids)] [(3, .app 42)]), (15, .cells [.int .i64 q190_.2.1.gKind, .str q190_.2.1.gName, .int .i64 q190_.2.1.gNum, .sl (List.map GTerm.c q190_.2.1.gKids)] [(3, .app 42)]), (1000003, .cells [.int .i64 q190_.1] [])], []⟩ _ (by kernel_rfl) (.cons (ih_pimpl_termAt h234) .nil) ?_
                  refine Wc.seq ?_
                  refine Wc.seq ?_
                  refine Wc.region [] [] [2, 3, 4, 8, 12, 15, 55, 56, 57, 71] [4, 8, 12, 15, 1000003] [] ⟨[(2, (.v (.int .i64 b180_), [])), (3, (.ptr 1000003 0, [])), (4, (.ptr 4 0, [])), (8, (.ptr 8 0, [])), (12, (.ptr 12 0, [])), (15, (.ptr 15 0, [])), (55, (.v (.sl (List.map cI.i64 c183_.gKids)), [])), (56, (.v (.int .i64 (c183_.gKids.length : Int)), [])), (57, (.v (.int .i64 b184_), [])), (71, (.v (.bool (!q190_.2.2)), []))], [(4, .cells [.sl (List.map GCell.c e178_.gCells), .sl (List.map cI.i64 e178_.gTrail)] []), (8, .cells [.int .i64 0, .str (bs []), .int .i64 0, .sl (List.map GTerm.c [])] [(3, .app 42)]), (12, .cells [.int .i64 i185_.gKind, .str i185_.gName, .int .i64 i185_.gNum, .sl (List.map GTerm.c i185_.gKids)] [(3, .app 42)]), (15, .cells [.int .i64 q190_.2.1.gKind, .str q190_.2.1.gName, .int .i64 q190_.2.1.gNum, .sl (List.map GTerm.c q190_.2.1.gKids)] [(3, .app 42)]), (1000003, .cells [.int .i64 q190_.1] [])], []⟩ _ (by kernel_rfl) .nil ?_
                  rcases oif h231 with ⟨h235, h231⟩ | ⟨h235, h231⟩
                  · refine Wc.condT h235 (by kernel_rfl) ?_
                    refine Wc.seq ?_
                    refine Wc.region [{}, { tk := [72] }] [] [8, 9] [8, 1000003] [] ⟨[(8, (.ptr 8 0, [])), (9, (.v (.bool false), []))], [(8, .cells [.int .i64 0, .str (bs []), .int .i64 0, .sl (List.map GTerm.c [])] [(3, .app 42)]), (1000003, .cells [.int .i64 q190_.1] [])], []⟩ _ (by kernel_rfl) .nil ?_
                    refine Wc.ret ?_
                    obtain rfl := Option.some.inj h231
                    obtain rfl := Option.some.inj h
                    exact ⟨.inl rfl, by kernel_rfl, by kernel_rfl⟩
                  · refine Wc.condF h235 (by kernel_rfl) ?_
                    refine Wc.fix (st' := ⟨[(2, (.v (.int .i64 b180_), [])), (3, (.ptr 1000003 0, [])), (4, (.ptr 4 0, [])), (8, (.ptr 8 0, [])), (12, (.ptr 12 0, [])), (15, (.ptr 15 0, [])), (55, (.v (.sl (List.map cI.i64 c183_.gKids)), [])), (56, (.v (.int .i64 (c183_.gKids.length : Int)), [])), (57, (.v (.int .i64 b184_), []))], [(4, .cells [.sl (List.map GCell.c e178_.gCells), .sl (List.map cI.i64 e178_.gTrail)] []), (8, .cells [.int .i64 0, .str (bs []), .int .i64 0, .sl (List.map GTerm.c [])] [(3, .app 42)]), (12, .cells [.int .i64 i185_.gKind, .str i185_.gName, .int .i64 i185_.gNum, .sl (List.map GTerm.c i185_.gKids)] [(3, .app 42)]), (15, .cells [.int .i64 q190_.2.1.gKind, .str q190_.2.1.gName, .int .i64 q190_.2.1.gNum, .sl (List.map GTerm.c q190_.2.1.gKids)] [(3, .app 42)]), (1000003, .cells [.int .i64 q190_.1] [])], []⟩) [] [2, 3, 4, 8, 12, 15, 55, 56, 57] [4, 8, 12, 15, 1000003] [] (by kernel_rfl) ?_
                    refine Wc.skip ?_
                    obtain ⟨h236, h231⟩ := oguard h231
                    refine Wc.region [{}, { md := 1 }, {}, { c := some (List.map GTerm.c [GTerm.mk q190_.2.1.gKind q190_.2.1.gName q190_.2.1.gNum q190_.2.1.gKids]) }, { c := some (List.map GTerm.c (i185_.gKids ++ [GTerm.mk q190_.2.1.gKind q190_.2.1.gName q190_.2.1.gNum q190_.2.1.gKids])), tk := [74] }, {}, { tk := [77] }] [] [2, 3, 4, 8, 12, 55, 56, 57] [4, 8, 12, 1000003] [] ⟨[(2, (.v (.int .i64 b180_), [])), (3, (.ptr 1000003 0, [])), (4, (.ptr 4 0, [])), (8, (.ptr 8 0, [])), (12, (.ptr 12 0, [])), (55, (.v (.sl (List.map cI.i64 c183_.gKids)), [])), (56, (.v (.int .i64 (c183_.gKids.length : Int)), [])), (57, (.v (.int .i64 b184_), []))], [(4, .cells [.sl (List.map GCell.c e178_.gCells), .sl (List.map cI.i64 e178_.gTrail)] []), (8, .cells [.int .i64 0, .str (bs []), .int .i64 0, .sl (List.map GTerm.c [])] [(3, .app 42)]), (12, .cells [.int .i64 i185_.gKind, .str i185_.gName, .int .i64 i185_.gNum, .sl (List.map GTerm.c (i185_.gKids ++ [GTerm.mk q190_.2.1.gKind q190_.2.1.gName q190_.2.1.gNum q190_.2.1.gKids]))] [(3, .app 42)]), (1000003, .cells [.int .i64 q190_.1] [])], []⟩ _ (by kernel_rfl) (.cons (cl_cons (c := GTerm.c) (x := GTerm.mk q190_.2.1.gKind q190_.2.1.gName q190_.2.1.gNum q190_.2.1.gKids) (GTerm.c_eq (GTerm.mk q190_.2.1.gKind q190_.2.1.gName q190_.2.1.gNum q190_.2.1.gKids)) (cl_nil GTerm.c)) (.cons (app_re2 GTerm.c i185_.gKids [GTerm.mk q190_.2.1.gKind q190_.2.1.gName q190_.2.1.gNum q190_.2.1.gKids]) (.cons (app_leaf (c := GTerm.c) (ys := [GTerm.mk q190_.2.1.gKind q190_.2.1.gName q190_.2.1.gNum q190_.2.1.gKids]) GTerm.c_leaf) (.cons (app_obl2 (c := GTerm.c) (xs := i185_.gKids) (ys := [GTerm.mk q190_.2.1.gKind q190_.2.1.gName q190_.2.1.gNum q190_.2.1.gKids]) GTerm.c_len h236) .nil)))) ?_
                    refine Wc.region [] [] [2, 3, 4, 8, 12, 55, 56, 57] [4, 8, 12, 1000003] [] ⟨[(2, (.v (.int .i64 b180_), [])), (3, (.ptr 1000003 0, [])), (4, (.ptr 4 0, [])), (8, (.ptr 8 0, [])), (12, (.ptr 12 0, [])), (55, (.v (.sl (List.map cI.i64 c183_.gKids)), [])), (56, (.v (.int .i64 (c183_.gKids.length : Int)), [])), (57, (.v (.int .i64 (wr.i64 (b184_ + 1))), []))], [(4, .cells [.sl (List.map GCell.c e178_.gCells), .sl (List.map cI.i64 e178_.gTrail)] []), (8, .cells [.int .i64 0, .str (bs []), .int .i64 0, .sl (List.map GTerm.c [])] [(3, .app 42)]), (12, .cells [.int .i64 i185_.gKind, .str i185_.gName, .int .i64 i185_.gNum, .sl (List.map GTerm.c (i185_.gKids ++ [GTerm.mk q190_.2.1.gKind q190_.2.1.gName q190_.2.1.gNum q190_.2.1.gKids]))] [(3, .app 42)]), (1000003, .cells [.int .i64 q190_.1] [])], []⟩ _ (by kernel_rfl) .nil ?_
                    exact ⟨_, Nat.lt_succ_self _, _, _, _, rfl, h231⟩
                · refine Wc.condF h232 (by kernel_rfl) ?_
                  refine Wc.fix (st' := ⟨[(8, (.ptr 8 0, [])), (12, (.ptr 12 0, []))], [(8, .cells [.int .i64 0, .str (bs []), .int .i64 0, .sl (List.map GTerm.c [])] [(3, .app 42)]), (12, .cells [.int .i64 i185_.gKind, .str i185_.gName, .int .i64 i185_.gNum, .sl (List.map GTerm.c i185_.gKids)] [(3, .app 42)]), (1000003, .cells [.int .i64 b186_] [])], []⟩) [] [8, 12] [8, 12, 1000003] [] (by kernel_rfl) ?_
                  refine Wc.exit ?_
                  obtain rfl := Option.some.inj h231
                  exact ⟨_, _, rfl, rfl⟩
            · rintro st ⟨i187_, b188_, rfl, rfl⟩
              refine Wc.seq ?_
              refine Wc.region [{ md := 1 }, { tk := [80] }] [] [8, 9] [8, 1000003] [] ⟨[(8, (.ptr 8 0, [])), (9, (.v (.bool true), []))], [(8, .cells [.int .i64 i187_.gKind, .str i187_.gName, .int .i64 i187_.gNum, .sl (List.map GTerm.c i187_.gKids)] [(3, .app 42)]), (1000003, .cells [.int .i64 b188_] [])], []⟩ _ (by kernel_rfl) .nil ?_
              refine Wc.ret ?_
              obtain rfl := Option.some.inj h
              exact ⟨.inl rfl, by kernel_rfl, by kernel_rfl⟩
theorem cimpl_termAt {k : Nat} {e178_ : GHeap} {b179_ : Int} {b180_ : Int} {b181_ : Int} {r : Int × GTerm × Bool} (h : pimpl_termAt k e178_ b179_ b180_ b181_ = some r) : FnO Try.prog 117 [.v (.agg [.sl (List.map GCell.c e178_.gCells), .sl (List.map cI.i64 e178_.gTrail)]) [], .v (.int .i64 b179_) [], .v (.int .i64 b180_) [], .p [.int .i64 b181_] []] (.v (.tup [.agg [.int .i64 r.2.1.gKind, .str r.2.1.gName, .int .i64 r.2.1.gNum, .sl (List.map GTerm.c r.2.1.gKids)], .bool r.2.2]) [(3, .app 42)]) [(3, .p [.int .i64 r.1] [])] := (all_pimpl_termAt k) h

/-- impl.rightAt -/
def pimpl_rightAt (k : Nat) (e195_ : GHeap) (b196_ : Int) : Option (GTerm × Bool) :=
  (pimpl_termAt k e195_ b196_ 1 400).bind fun q197_ =>
  if (!q197_.2.2) = true then
    some (GTerm.mk 0 (bs []) 0 [], false)
  else
    (pimpl_TermOk k (GTerm.mk q197_.2.1.gKind q197_.2.1.gName q197_.2.1.gNum q197_.2.1.gKids)).bind fun f198_ =>
    if (!f198_) = true then
      some (GTerm.mk 0 (bs []) 0 [], false)
    else
      some (GTerm.mk q197_.2.1.gKind q197_.2.1.gName q197_.2.1.gNum q197_.2.1.gKids, true)
theorem cimpl_rightAt {k : Nat} {e195_ : GHeap} {b196_ : Int} {r : GTerm × Bool} (h : pimpl_rightAt k e195_ b196_ = some r) : FnO Try.prog 70 [.v (.agg [.sl (List.map GCell.c e195_.gCells), .sl (List.map cI.i64 e195_.gTrail)]) [], .v (.int .i64 b196_) []] (.v (.tup [.agg [.int .i64 r.1.gKind, .str r.1.gName, .int .i64 r.1.gNum, .sl (List.map GTerm.c r.1.gKids)], .bool r.2]) [(3, .app 42)]) [] := by
  refine FnO.of Try.func70 (rfl : Try.f70.body = some _) (Nat.le_of_ble_eq_true (by kernel_rfl)) (Nat.le_of_ble_eq_true (by kernel_rfl)) ?_
  intro w0 X0 Fin pv0 pb
  unfold pimpl_rightAt at h
  refine Wc.seq ?_
  refine Wc.region [] [] [1, 2, 4] [2, 4] [] ⟨[(1, (.v (.int .i64 b196_), [])), (2, (.ptr 2 0, [])), (4, (.ptr 4 0, []))], [(2, .cells [.sl (List.map GCell.c e195_.gCells), .sl (List.map cI.i64 e195_.gTrail)] []), (4, .cells [.int .i64 0, .str (bs []), .int .i64 0, .sl (List.map GTerm.c [])] [(3, .app 42)])], []⟩ _ (by kernel_rfl) .nil ?_
  refine Wc.seq ?_
  refine Wc.region [] [] [1, 2, 4, 6] [2, 4, 6] [] ⟨[(1, (.v (.int .i64 b196_), [])), (2, (.ptr 2 0, [])), (4, (.ptr 4 0, [])), (6, (.ptr 6 0, []))], [(2, .cells [.sl (List.map GCell.c e195_.gCells), .sl (List.map cI.i64 e195_.gTrail)] []), (4, .cells [.int .i64 0, .str (bs []), .int .i64 0, .sl (List.map GTerm.c [])] [(3, .app 42)]), (6, .cells [.int .i64 400] [])], []⟩ _ (by kernel_rfl) .nil ?_
  refine Wc.seq ?_
  obtain ⟨q197_, h241, h⟩ := obind h
  refine Wc.region [{}, {}, { r := some (.v (.tup [.agg [.int .i64 q197_.2.1.gKind, .str q197_.2.1.gName, .int .i64 q197_.2.1.gNum, .sl (List.map GTerm.c q197_.2.1.gKids)], .bool q197_.2.2]) [(3, .app 42)]), outs := [(3, .p [.int .i64 q197_.1] [])] }, { tk := [12] }, { tk := [9] }, {}, {}, { tk := [13] }] [] [4, 7, 8] [4, 7] [] ⟨[(4, (.ptr 4 0, [])), (7, (.ptr 7 0, [])), (8, (.v (.bool q197_.2.2), []))], [(4, .cells [.int .i64 0, .str (bs []), .int .i64 0, .sl (List.map GTerm.c [])] [(3, .app 42)]), (7, .cells [.int .i64 q197_.2.1.gKind, .str q197_.2.1.gName, .int .i64 q197_.2.1.gNum, .sl (List.map GTerm.c q197_.2.1.gKids)] [(3, .app 42)])], []⟩ _ (by kernel_rfl) (.cons (cimpl_termAt h241) .nil) ?_
  refine Wc.seq ?_
  refine Wc.seq ?_
  rcases oif h with ⟨h242, h⟩ | ⟨h242, h⟩
  · refine Wc.region [{}, {}, { re := some (.bool true) }] [] [4, 7, 21] [4, 7] [] ⟨[(4, (.ptr 4 0, [])), (7, (.ptr 7 0, [])), (21, (.v (.bool true), []))], [(4, .cells [.int .i64 0, .str (bs []), .int .i64 0, .sl (List.map GTerm.c [])] [(3, .app 42)]), (7, .cells [.int .i64 q197_.2.1.gKind, .str q197_.2.1.gName, .int .i64 q197_.2.1.gNum, .sl (List.map GTerm.c q197_.2.1.gKids)] [(3, .app 42)])], []⟩ _ (by kernel_rfl) (.cons (congrArg AV.bool h242) .nil) ?_
    refine Wc.condT rfl (by kernel_rfl) ?_
    refine Wc.seq ?_
    refine Wc.region [{}, { tk := [22] }] [] [4, 5] [4] [] ⟨[(4, (.ptr 4 0, [])), (5, (.v (.bool false), []))], [(4, .cells [.int .i64 0, .str (bs []), .int .i64 0, .sl (List.map GTerm.c [])] [(3, .app 42)])], []⟩ _ (by kernel_rfl) .nil ?_
    refine Wc.ret ?_
    obtain rfl := Option.some.inj h
    exact ⟨.inl rfl, by kernel_rfl, by kernel_rfl⟩
  · obtain ⟨f198_, h243, h⟩ := obind h
    refine Wc.region [{}, {}, { re := some (.bool false) }, {}, { r := some (.v (.bool f198_) []) }] [] [4, 7, 21] [4, 7] [] ⟨[(4, (.ptr 4 0, [])), (7, (.ptr 7 0, [])), (21, (.v (.bool (!f198_)), []))], [(4, .cells [.int .i64 0, .str (bs []), .int .i64 0, .sl (List.map GTerm.c [])] [(3, .app 42)]), (7, .cells [.int .i64 q197_.2.1.gKind, .str q197_.2.1.gName, .int .i64 q197_.2.1.gNum, .sl (List.map GTerm.c q197_.2.1.gKids)] [(3, .app 42)])], []⟩ _ (by kernel_rfl) (.cons (congrArg AV.bool h242) (.cons (cimpl_TermOk h243) .nil)) ?_
    rcases oif h with ⟨h244, h⟩ | ⟨h244, h⟩
    · refine Wc.condT h244 (by kernel_rfl) ?_
      refine Wc.seq ?_
      refine Wc.region [{}, { tk := [22] }] [] [4, 5] [4] [] ⟨[(4, (.ptr 4 0, [])), (5, (.v (.bool false), []))], [(4, .cells [.int .i64 0, .str (bs []), .int .i64 0, .sl (List.map GTerm.c [])] [(3, .app 42)])], []⟩ _ (by kernel_rfl) .nil ?_
      refine Wc.ret ?_
      obtain rfl := Option.some.inj h
      exact ⟨.inl rfl, by kernel_rfl, by kernel_rfl⟩
    · refine Wc.condF h244 (by kernel_rfl) ?_
      refine Wc.fix (st' := ⟨[(4, (.ptr 4 0, [])), (7, (.ptr 7 0, []))], [(4, .cells [.int .i64 0, .str (bs []), .int .i64 0, .sl (List.map GTerm.c [])] [(3, .app 42)]), (7, .cells [.int .i64 q197_.2.1.gKind, .str q197_.2.1.gName, .int .i64 q197_.2.1.gNum, .sl (List.map GTerm.c q197_.2.1.gKids)] [(3, .app 42)])], []⟩) [] [4, 7] [4, 7] [] (by kernel_rfl) ?_
      refine Wc.skip ?_
      refine Wc.seq ?_
      refine Wc.region [{ md := 1 }, { tk := [23] }] [] [4, 5] [4] [] ⟨[(4, (.ptr 4 0, [])), (5, (.v (.bool true), []))], [(4, .cells [.int .i64 q197_.2.1.gKind, .str q197_.2.1.gName, .int .i64 q197_.2.1.gNum, .sl (List.map GTerm.c q197_.2.1.gKids)] [(3, .app 42)])], []⟩ _ (by kernel_rfl) .nil ?_
      refine Wc.ret ?_
      obtain rfl := Option.some.inj h
      exact ⟨.inl rfl, by kernel_rfl, by kernel_rfl⟩

/-- impl.TermAt -/
def pimpl_TermAt (k : Nat) (e203_ : GHeap) (b204_ : Int) : Option (GTerm × Bool) :=
  (pimpl_HeapOk k e203_).bind fun f205_ =>
  if (!f205_) = true then
    some (GTerm.mk 0 (bs []) 0 [], false)
  else
    (pimpl_rightAt k e203_ b204_).bind fun m206_ =>
    some (GTerm.mk m206_.1.gKind m206_.1.gName m206_.1.gNum m206_.1.gKids, m206_.2)
theorem cimpl_TermAt {k : Nat} {e203_ : GHeap} {b204_ : Int} {r : GTerm × Bool} (h : pimpl_TermAt k e203_ b204_ = some r) : FnO Try.prog 19 [.v (.agg [.sl (List.map GCell.c e203_.gCells), .sl (List.map cI.i64 e203_.gTrail)]) [], .v (.int .i64 b204_) []] (.v (.tup [.agg [.int .i64 r.1.gKind, .str r.1.gName, .int .i64 r.1.gNum, .sl (List.map GTerm.c r.1.gKids)], .bool r.2]) [(3, .app 42)]) [] := by
  refine FnO.of Try.func19 (rfl : Try.f19.body = some _) (Nat.le_of_ble_eq_true (by kernel_rfl)) (Nat.le_of_ble_eq_true (by kernel_rfl)) ?_
  intro w0 X0 Fin pv0 pb
  unfold pimpl_TermAt at h
  refine Wc.seq ?_
  refine Wc.region [] [] [1, 2, 4] [2, 4] [] ⟨[(1, (.v (.int .i64 b204_), [])), (2, (.ptr 2 0, [])), (4, (.ptr 4 0, []))], [(2, .cells [.sl (List.map GCell.c e203_.gCells), .sl (List.map cI.i64 e203_.gTrail)] []), (4, .cells [.int .i64 0, .str (bs []), .int .i64 0, .sl (List.map GTerm.c [])] [(3, .app 42)])], []⟩ _ (by kernel_rfl) .nil ?_
  refine Wc.seq ?_
  refine Wc.seq ?_
  obtain ⟨f205_, h248, h⟩ := obind h
  refine Wc.region [{}, { r := some (.v (.bool f205_) []) }] [] [1, 2, 4, 8] [2, 4] [] ⟨[(1, (.v (.int .i64 b204_), [])), (2, (.ptr 2 0, [])), (4, (.ptr 4 0, [])), (8, (.v (.bool (!f205_)), []))], [(2, .cells [.sl (List.map GCell.c e203_.gCells), .sl (List.map cI.i64 e203_.gTrail)] []), (4, .cells [.int .i64 0, .str (bs []), .int .i64 0, .sl (List.map GTerm.c [])] [(3, .app 42)])], []⟩ _ (by kernel_rfl) (.cons (cimpl_HeapOk h248) .nil) ?_
  rcases oif h with ⟨h249, h⟩ | ⟨h249, h⟩
  · refine Wc.condT h249 (by kernel_rfl) ?_
    refine Wc.seq ?_
    refine Wc.region [{}, { tk := [9] }] [] [4, 5] [4] [] ⟨[(4, (.ptr 4 0, [])), (5, (.v (.bool false), []))], [(4, .cells [.int .i64 0, .str (bs []), .int .i64 0, .sl (List.map GTerm.c [])] [(3, .app 42)])], []⟩ _ (by kernel_rfl) .nil ?_
    refine Wc.ret ?_
    obtain rfl := Option.some.inj h
    exact ⟨.inl rfl, by kernel_rfl, by kernel_rfl⟩
  · refine Wc.condF h249 (by kernel_rfl) ?_
    refine Wc.fix (st' := ⟨[(1, (.v (.int .i64 b204_), [])), (2, (.ptr 2 0, [])), (4, (.ptr 4 0, []))], [(2, .cells [.sl (List.map GCell.c e203_.gCells), .sl (List.map cI.i64 e203_.gTrail)] []), (4, .cells [.int .i64 0, .str (bs []), .int .i64 0, .sl (List.map GTerm.c [])] [(3, .app 42)])], []⟩) [] [1, 2, 4] [2, 4] [] (by kernel_rfl) ?_
    refine Wc.skip ?_
    refine Wc.seq ?_
    obtain ⟨m206_, h250, h⟩ := obind h
    refine Wc.region [{}, {}, { r := some (.v (.tup [.agg [.int .i64 m206_.1.gKind, .str m206_.1.gName, .int .i64 m206_.1.gNum, .sl (List.map GTerm.c m206_.1.gKids)], .bool m206_.2]) [(3, .app 42)]) }, { tk := [12] }, {}, { tk := [13] }] [] [4, 5] [4] [] ⟨[(4, (.ptr 4 0, [])), (5, (.v (.bool m206_.2), []))], [(4, .cells [.int .i64 m206_.1.gKind, .str m206_.1.gName, .int .i64 m206_.1.gNum, .sl (List.map GTerm.c m206_.1.gKids)] [(3, .app 42)])], []⟩ _ (by kernel_rfl) (.cons (cimpl_rightAt h250) .nil) ?_
    refine Wc.ret ?_
    obtain rfl := Option.some.inj h
    exact ⟨.inl rfl, by kernel_rfl, by kernel_rfl⟩

def plaws_eqTermS_L1 (k : Nat) (rlaws_eqTerm : GTerm → GTerm → Option Bool) (rlaws_eqTermS : (List GTerm) → (List GTerm) → Option Bool) (r210_ : List GTerm) (r211_ : List GTerm) : Nat → Int → Option (Out Bool Unit)
  | 0, _ => none
  | m + 1, b212_ =>
    if (decide (b212_ < (r210_.length : Int))) = true then
      (at' r210_ b212_).bind fun i213_ =>
      (at' r211_ b212_).bind fun i214_ =>
      (rlaws_eqTerm i213_ i214_).bind fun f215_ =>
      if (!f215_) = true then
        some (.ret false)
      else
        plaws_eqTermS_L1 k rlaws_eqTerm rlaws_eqTermS r210_ r211_ m (wr.i64 (b212_ + 1))
    else
      some (.done ())
mutual
/-- laws.eqTerm -/
def plaws_eqTerm : Nat → GTerm → GTerm → Option Bool
  | 0, _, _ => none
  | k + 1, i207_, i208_ =>
    if (i207_.gKind != i208_.gKind) = true then
      some false
    else
      if (!(sEq i207_.gName i208_.gName)) = true then
        some false
      else
        if (i207_.gNum != i208_.gNum) = true then
          some false
        else
          (plaws_eqTermS k i207_.gKids i208_.gKids).bind fun f209_ =>
          if (!f209_) = true then
            some false
          else
            some true
/-- laws.eqTermS -/
def plaws_eqTermS : Nat → (List GTerm) → (List GTerm) → Option Bool
  | 0, _, _ => none
  | k + 1, r210_, r211_ =>
    if ((r210_.length : Int) != (r211_.length : Int)) = true then
      some false
    else
      (plaws_eqTermS_L1 k (plaws_eqTerm k) (plaws_eqTermS k) r210_ r211_ k 0).bind fun out1 => match out1 with
      | .ret r => some r
      | .done () =>
        some true
end
set_option maxHeartbeats 4000000 in
theorem all_plaws_eqTerm : ∀ k : Nat, (∀ {i207_ : GTerm} {i208_ : GTerm} {r : Bool}, plaws_eqTerm k i207_ i208_ = some r → FnO Try.prog 20 [.v (.agg [.int .i64 i207_.gKind, .str i207_.gName, .int .i64 i207_.gNum, .sl (List.map GTerm.c i207_.gKids)]) [], .v (.agg [.int .i64 i208_.gKind, .str i208_.gName, .int .i64 i208_.gNum, .sl (List.map GTerm.c i208_.gKids)]) []] (.v (.bool r) []) []) ∧
    (∀ {r210_ : List GTerm} {r211_ : List GTerm} {r : Bool}, plaws_eqTermS k r210_ r211_ = some r → FnO Try.prog 71 [.v (.sl (List.map GTerm.c r210_)) [], .v (.sl (List.map GTerm.c r211_)) []] (.v (.bool r) []) []) := by
  intro k
  induction k with
  | zero =>
    refine ⟨?_, ?_⟩
    · intro i207_ i208_ r h
      exact (onone (by rw [plaws_eqTerm] at h; exact h)).elim
    · intro r210_ r211_ r h
      exact (onone (by rw [plaws_eqTermS] at h; exact h)).elim
  | succ k ih =>
    obtain ⟨ih_plaws_eqTerm, ih_plaws_eqTermS⟩ := ih
    refine ⟨?_, ?_⟩
    · intro i207_ i208_ r h
      rw [plaws_eqTerm] at h
      refine FnO.of Try.func20 (rfl : Try.f20.body = some _) (Nat.le_of_ble_eq_true (by kernel_rfl)) (Nat.le_of_ble_eq_true (by kernel_rfl)) ?_
      intro w0 X0 Fin pv0 pb
      refine Wc.seq ?_
      refine Wc.region [] [] [2, 3] [2, 3] [] ⟨[(2, (.ptr 2 0, [])), (3, (.ptr 3 0, []))], [(2, .cells [.int .i64 i207_.gKind, .str i207_.gName, .int .i64 i207_.gNum, .sl (List.map GTerm.c i207_.gKids)] []), (3, .cells [.int .i64 i208_.gKind, .str i208_.gName, .int .i64 i208_.gNum, .sl (List.map GTerm.c i208_.gKids)] [])], []⟩ _ (by kernel_rfl) .nil ?_
      refine Wc.seq ?_
      refine Wc.seq ?_
      refine Wc.region [] [] [2, 3, 9] [2, 3] [] ⟨[(2, (.ptr 2 0, [])), (3, (.ptr 3 0, [])), (9, (.v (.bool (i207_.gKind != i208_.gKind)), []))], [(2, .cells [.int .i64 i207_.gKind, .str i207_.gName, .int .i64 i207_.gNum, .sl (List.map GTerm.c i207_.gKids)] []), (3, .cells [.int .i64 i208_.gKind, .str i208_.gName, .int .i64 i208_.gNum, .sl (List.map GTerm.c i208_.gKids)] [])], []⟩ _ (by kernel_rfl) .nil ?_
      rcases oif h with ⟨h251, h⟩ | ⟨h251, h⟩
      · refine Wc.condT h251 (by kernel_rfl) ?_
        refine Wc.seq ?_
        refine Wc.region [] [] [4] [] [] ⟨[(4, (.v (.bool false), []))], [], []⟩ _ (by kernel_rfl) .nil ?_
        refine Wc.ret ?_
        obtain rfl := Option.some.inj h
        exact ⟨.inl rfl, by kernel_rfl, by kernel_rfl⟩
      · refine Wc.condF h251 (by kernel_rfl) ?_
        refine Wc.fix (st' := ⟨[(2, (.ptr 2 0, [])), (3, (.ptr 3 0, []))], [(2, .cells [.int .i64 i207_.gKind, .str i207_.gName, .int .i64 i207_.gNum, .sl (List.map GTerm.c i207_.gKids)] []), (3, .cells [.int .i64 i208_.gKind, .str i208_.gName, .int .i64 i208_.gNum, .sl (List.map GTerm.c i208_.gKids)] [])], []⟩) [] [2, 3] [2, 3] [] (by kernel_rfl) ?_
        refine Wc.skip ?_
        refine Wc.seq ?_
        refine Wc.seq ?_
        refine Wc.region [] [] [2, 3, 14] [2, 3] [] ⟨[(2, (.ptr 2 0, [])), (3, (.ptr 3 0, [])), (14, (.v (.bool (!(sEq i207_.gName i208_.gName))), []))], [(2, .cells [.int .i64 i207_.gKind, .str i207_.gName, .int .i64 i207_.gNum, .sl (List.map GTerm.c i207_.gKids)] []), (3, .cells [.int .i64 i208_.gKind, .str i208_.gName, .int .i64 i208_.gNum, .sl (List.map GTerm.c i208_.gKids)] [])], []⟩ _ (by kernel_rfl) .nil ?_
        rcases oif h with ⟨h252, h⟩ | ⟨h252, h⟩
        · refine Wc.condT h252 (by kernel_rfl) ?_
          refine Wc.seq ?_
          refine Wc.region [] [] [4] [] [] ⟨[(4, (.v (.bool false), []))], [], []⟩ _ (by kernel_rfl) .nil ?_
          refine Wc.ret ?_
          obtain rfl := Option.some.inj h
          exact ⟨.inl rfl, by kernel_rfl, by kernel_rfl⟩
        · refine Wc.condF h252 (by kernel_rfl) ?_
          refine Wc.fix (st' := ⟨[(2, (.ptr 2 0, [])), (3, (.ptr 3 0, []))], [(2, .cells [.int .i64 i207_.gKind, .str i207_.gName, .int .i64 i207_.gNum, .sl (List.map GTerm.c i207_.gKids)] []), (3, .cells [.int .i64 i208_.gKind, .str i208_.gName, .int .i64 i208_.gNum, .sl (List.map GTerm.c i208_.gKids)] [])], []⟩) [] [2, 3] [2, 3] [] (by kernel_rfl) ?_
          refine Wc.skip ?_
          refine Wc.seq ?_
          refine Wc.seq ?_
          refine Wc.region [] [] [2, 3, 19] [2, 3] [] ⟨[(2, (.ptr 2 0, [])), (3, (.ptr 3 0, [])), (19, (.v (.bool (i207_.gNum != i208_.gNum)), []))], [(2, .cells [.int .i64 i207_.gKind, .str i207_.gName, .int .i64 i207_.gNum, .sl (List.map GTerm.c i207_.gKids)] []), (3, .cells [.int .i64 i208_.gKind, .str i208_.gName, .int .i64 i208_.gNum, .sl (List.map GTerm.c i208_.gKids)] [])], []⟩ _ (by kernel_rfl) .nil ?_
          rcases oif h with ⟨h253, h⟩ | ⟨h253, h⟩
          · refine Wc.condT h253 (by kernel_rfl) ?_
            refine Wc.seq ?_
            refine Wc.region [] [] [4] [] [] ⟨[(4, (.v (.bool false), []))], [], []⟩ _ (by kernel_rfl) .nil ?_
            refine Wc.ret ?_
            obtain rfl := Option.some.inj h
            exact ⟨.inl rfl, by kernel_rfl, by kernel_rfl⟩
          · refine Wc.condF h253 (by kernel_rfl) ?_
            refine Wc.fix (st' := ⟨[(2, (.ptr 2 0, [])), (3, (.ptr 3 0, []))], [(2, .cells [.int .i64 i207_.gKind, .str i207_.gName, .int .i64 i207_.gNum, .sl (List.map GTerm.c i207_.gKids)] []), (3, .cells [.int .i64 i208_.gKind, .str i208_.gName, .int .i64 i208_.gNum, .sl (List.map GTerm.c i208_.gKids)] [])], []⟩) [] [2, 3] [2, 3] [] (by kernel_rfl) ?_
            refine Wc.skip ?_
            refine Wc.seq ?_
            refine Wc.seq ?_
            obtain ⟨f209_, h254, h⟩ := obind h
            refine Wc.region [{}, {}, {}, {}, { r := some (.v (.bool f209_) []) }] [] [25] [] [] ⟨[(25, (.v (.bool (!f209_)), []))], [], []⟩ _ (by kernel_rfl) (.cons (ih_plaws_eqTermS h254) .nil) ?_
            rcases oif h with ⟨h255, h⟩ | ⟨h255, h⟩
            · refine Wc.condT h255 (by kernel_rfl) ?_
              refine Wc.seq ?_
              refine Wc.region [] [] [4] [] [] ⟨[(4, (.v (.bool false), []))], [], []⟩ _ (by kernel_rfl) .nil ?_
              refine Wc.ret ?_
              obtain rfl := Option.some.inj h
              exact ⟨.inl rfl, by kernel_rfl, by kernel_rfl⟩
            · refine Wc.condF h255 (by kernel_rfl) ?_
              refine Wc.fix (st' := ⟨[], [], []⟩) [] [] [] [] (by kernel_rfl) ?_
              refine Wc.skip ?_
              refine Wc.seq ?_
              refine Wc.region [] [] [4] [] [] ⟨[(4, (.v (.bool true), []))], [], []⟩ _ (by kernel_rfl) .nil ?_
              refine Wc.ret ?_
              obtain rfl := Option.some.inj h
              exact ⟨.inl rfl, by kernel_rfl, by kernel_rfl⟩
    · intro r210_ r211_ r h
      rw [plaws_eqTermS] at h
      refine FnO.of Try.func71 (rfl : Try.f71.body = some _) (Nat.le_of_ble_eq_true (by kernel_rfl)) (Nat.le_of_ble_eq_true (by kernel_rfl)) ?_
      intro w0 X0 Fin pv0 pb
      refine Wc.seq ?_
      refine Wc.region [] [] [0, 1] [] [] ⟨[(0, (.v (.sl (List.map GTerm.c r210_)), [])), (1, (.v (.sl (List.map GTerm.c r211_)), []))], [], []⟩ _ (by kernel_rfl) .nil ?_
      refine Wc.seq ?_
      refine Wc.seq ?_
      refine Wc.region [{}, { v := some (.int .i64 (r210_.length : Int)) }, {}, { v := some (.int .i64 (r211_.length : Int)) }] [] [0, 1, 10] [] [] ⟨[(0, (.v (.sl (List.map GTerm.c r210_)), [])), (1, (.v (.sl (List.map GTerm.c r211_)), [])), (10, (.v (.bool ((r210_.length : Int) != (r211_.length : Int))), []))], [], []⟩ _ (by kernel_rfl) (.cons (len_obl GTerm.c r210_) (.cons (len_obl GTerm.c r211_) .nil)) ?_
      rcases oif h with ⟨h256, h⟩ | ⟨h256, h⟩
      · refine Wc.condT h256 (by kernel_rfl) ?_
        refine Wc.seq ?_
        refine Wc.region [] [] [4] [] [] ⟨[(4, (.v (.bool false), []))], [], []⟩ _ (by kernel_rfl) .nil ?_
        refine Wc.ret ?_
        obtain rfl := Option.some.inj h
        exact ⟨.inl rfl, by kernel_rfl, by kernel_rfl⟩
      · refine Wc.condF h256 (by kernel_rfl) ?_
        refine Wc.fix (st' := ⟨[(0, (.v (.sl (List.map GTerm.c r210_)), [])), (1, (.v (.sl (List.map GTerm.c r211_)), []))], [], []⟩) [] [0, 1] [] [] (by kernel_rfl) ?_
        refine Wc.skip ?_
        refine Wc.seq ?_
        refine Wc.seq ?_
        refine Wc.region [] [] [0, 1, 5] [] [] ⟨[(0, (.v (.sl (List.map GTerm.c r210_)), [])), (1, (.v (.sl (List.map GTerm.c r211_)), [])), (5, (.v (.int .i64 0), []))], [], []⟩ _ (by kernel_rfl) .nil ?_
        obtain ⟨out1, h257, h⟩ := obind h
        refine Wc.lastJ (fun st => out1 = .done () ∧ st = ⟨[], [], []⟩) ?_ ?_
        · refine Wc.block ?_
          refine Wc.loop (fun m st => ∃ (b212_ : Int), st = ⟨[(0, (.v (.sl (List.map GTerm.c r210_)), [])), (1, (.v (.sl (List.map GTerm.c r211_)), [])), (5, (.v (.int .i64 b212_), []))], [], []⟩ ∧ plaws_eqTermS_L1 k (plaws_eqTerm k) (plaws_eqTermS k) r210_ r211_ m b212_ = some out1) ?_ k ⟨_, rfl, h257⟩
          rintro m st ⟨b212_, rfl, h257⟩
          cases m with
          | zero => exact (onone h257).elim
          | succ m =>
            refine Wc.seq ?_
            refine Wc.seq ?_
            refine Wc.region [{}, {}, { v := some (.int .i64 (r210_.length : Int)) }] [] [0, 1, 5, 14] [] [] ⟨[(0, (.v (.sl (List.map GTerm.c r210_)), [])), (1, (.v (.sl (List.map GTerm.c r211_)), [])), (5, (.v (.int .i64 b212_), [])), (14, (.v (.bool (decide (b212_ < (r210_.length : Int)))), []))], [], []⟩ _ (by kernel_rfl) (.cons (len_obl GTerm.c r210_) .nil) ?_
            rcases oif h257 with ⟨h258, h257⟩ | ⟨h258, h257⟩
            · refine Wc.condT h258 (by kernel_rfl) ?_
              refine Wc.fix (st' := ⟨[(0, (.v (.sl (List.map GTerm.c r210_)), [])), (1, (.v (.sl (List.map GTerm.c r211_)), [])), (5, (.v (.int .i64 b212_), []))], [], []⟩) [] [0, 1, 5] [] [] (by kernel_rfl) ?_
              refine Wc.skip ?_
              refine Wc.seq ?_
              refine Wc.block ?_
              refine Wc.seq ?_
              obtain ⟨i213_, h259, h257⟩ := obind h257
              obtain ⟨i214_, h260, h257⟩ := obind h257
              obtain ⟨f215_, h261, h257⟩ := obind h257
              refine Wc.draw hmix [{}, {}, { v := some (.vptr [.int .i64 i213_.gKind, .str i213_.gName, .int .i64 i213_.gNum, .sl (List.map GTerm.c i213_.gKids)]) }, {}, {}, {}, { v := some (.vptr [.int .i64 i214_.gKind, .str i214_.gName, .int .i64 i214_.gNum, .sl (List.map GTerm.c i214_.gKids)]) }, {}, { r := some (.v (.bool f215_) []) }] [] [0, 1, 5, 26] [] [] ⟨[(0, (.v (.sl (List.map GTerm.c r210_)), [])), (1, (.v (.sl (List.map GTerm.c r211_)), [])), (5, (.v (.int .i64 b212_), [])), (26, (.v (.bool (!f215_)), []))], [], []⟩ _ (by kernel_rfl) (fun X => by kernel_rfl) (.cons (at_obl (c := GTerm.c) (GTerm.c_eq i213_) GTerm.c_len h259) (.cons (len_ok 4 [.int .i64 i213_.gKind, .str i213_.gName, .int .i64 i213_.gNum, .sl (List.map GTerm.c i213_.gKids)]) (.cons (at_obl (c := GTerm.c) (GTerm.c_eq i214_) GTerm.c_len h260) (.cons (len_ok 4 [.int .i64 i214_.gKind, .str i214_.gName, .int .i64 i214_.gNum, .sl (List.map GTerm.c i214_.gKids)]) (.cons (ih_plaws_eqTerm h261) .nil))))) ?_
              rcases oif h257 with ⟨h262, h257⟩ | ⟨h262, h257⟩
              · refine Wc.condT h262 (by kernel_rfl) ?_
                refine Wc.seq ?_
                refine Wc.region [] [] [4] [] [] ⟨[(4, (.v (.bool false), []))], [], []⟩ _ (by kernel_rfl) .nil ?_
                refine Wc.ret ?_
                obtain rfl := Option.some.inj h257
                obtain rfl := Option.some.inj h
                exact ⟨.inl rfl, by kernel_rfl, by kernel_rfl⟩
              · refine Wc.condF h262 (by kernel_rfl) ?_
                refine Wc.fix (st' := ⟨[(0, (.v (.sl (List.map GTerm.c r210_)), [])), (1, (.v (.sl (List.map GTerm.c r211_)), [])), (5, (.v (.int .i64 b212_), []))], [], []⟩) [] [0, 1, 5] [] [] (by kernel_rfl) ?_
                refine Wc.skip ?_
                refine Wc.region [] [] [0, 1, 5] [] [] ⟨[(0, (.v (.sl (List.map GTerm.c r210_)), [])), (1, (.v (.sl (List.map GTerm.c r211_)), [])), (5, (.v (.int .i64 (wr.i64 (b212_ + 1))), []))], [], []⟩ _ (by kernel_rfl) .nil ?_
                exact ⟨_, Nat.lt_succ_self _, _, rfl, h257⟩
            · refine Wc.condF h258 (by kernel_rfl) ?_
              refine Wc.fix (st' := ⟨[], [], []⟩) [] [] [] [] (by kernel_rfl) ?_
              refine Wc.exit ?_
              obtain rfl := Option.some.inj h257
              exact ⟨rfl, rfl⟩
        · rintro st ⟨rfl, rfl⟩
          refine Wc.seq ?_
          refine Wc.region [] [] [4] [] [] ⟨[(4, (.v (.bool true), []))], [], []⟩ _ (by kernel_rfl) .nil ?_
          refine Wc.ret ?_
          obtain rfl := Option.some.inj h
          exact ⟨.inl rfl, by kernel_rfl, by kernel_rfl⟩
theorem claws_eqTerm {k : Nat} {i207_ : GTerm} {i208_ : GTerm} {r : Bool} (h : plaws_eqTerm k i207_ i208_ = some r) : FnO Try.prog 20 [.v (.agg [.int .i64 i207_.gKind, .str i207_.gName, .int .i64 i207_.gNum, .sl (List.map GTerm.c i207_.gKids)]) [], .v (.agg [.int .i64 i208_.gKind, .str i208_.gName, .int .i64 i208_.gNum, .sl (List.map GTerm.c i208_.gKids)]) []] (.v (.bool r) []) [] := (all_plaws_eqTerm k).1 h
theorem claws_eqTermS {k : Nat} {r210_ : List GTerm} {r211_ : List GTerm} {r : Bool} (h : plaws_eqTermS k r210_ r211_ = some r) : FnO Try.prog 71 [.v (.sl (List.map GTerm.c r210_)) [], .v (.sl (List.map GTerm.c r211_)) []] (.v (.bool r) []) [] := (all_plaws_eqTerm k).2 h

def plaws_eqIntS_L1 (k : Nat) (a216_ : List Int) (a217_ : List Int) : Nat → Int → Option (Out Bool Unit)
  | 0, _ => none
  | m + 1, b218_ =>
    if (decide (b218_ < (a216_.length : Int))) = true then
      (at' a216_ b218_).bind fun b219_ =>
      (at' a217_ b218_).bind fun b220_ =>
      if (b219_ != b220_) = true then
        some (.ret false)
      else
        plaws_eqIntS_L1 k a216_ a217_ m (wr.i64 (b218_ + 1))
    else
      some (.done ())
/-- laws.eqIntS -/
def plaws_eqIntS (k : Nat) (a216_ : List Int) (a217_ : List Int) : Option Bool :=
  if ((a216_.length : Int) != (a217_.length : Int)) = true then
    some false
  else
    (plaws_eqIntS_L1 k a216_ a217_ k 0).bind fun out1 => match out1 with
    | .ret r => some r
    | .done () =>
      some true
theorem claws_eqIntS {k : Nat} {a216_ : List Int} {a217_ : List Int} {r : Bool} (h : plaws_eqIntS k a216_ a217_ = some r) : FnO Try.prog 73 [.v (.sl (List.map cI.i64 a216_)) [], .v (.sl (List.map cI.i64 a217_)) []] (.v (.bool r) []) [] := by
  refine FnO.of Try.func73 (rfl : Try.f73.body = some _) (Nat.le_of_ble_eq_true (by kernel_rfl)) (Nat.le_of_ble_eq_true (by kernel_rfl)) ?_
  intro w0 X0 Fin pv0 pb
  unfold plaws_eqIntS at h
  refine Wc.seq ?_
  refine Wc.region [] [] [0, 1] [] [] ⟨[(0, (.v (.sl (List.map cI.i64 a216_)), [])), (1, (.v (.sl (List.map cI.i64 a217_)), []))], [], []⟩ _ (by kernel_rfl) .nil ?_
  refine Wc.seq ?_
  refine Wc.seq ?_
  refine Wc.region [{}, { v := some (.int .i64 (a216_.length : Int)) }, {}, { v := some (.int .i64 (a217_.length : Int)) }] [] [0, 1, 10] [] [] ⟨[(0, (.v (.sl (List.map cI.i64 a216_)), [])), (1, (.v (.sl (List.map cI.i64 a217_)), [])), (10, (.v (.bool ((a216_.length : Int) != (a217_.length : Int))), []))], [], []⟩ _ (by kernel_rfl) (.cons (len_obl cI.i64 a216_) (.cons (len_obl cI.i64 a217_) .nil)) ?_
  rcases oif h with ⟨h263, h⟩ | ⟨h263, h⟩
  · refine Wc.condT h263 (by kernel_rfl) ?_
    refine Wc.seq ?_
    refine Wc.region [] [] [4] [] [] ⟨[(4, (.v (.bool false), []))], [], []⟩ _ (by kernel_rfl) .nil ?_
    refine Wc.ret ?_
    obtain rfl := Option.some.inj h
    exact ⟨.inl rfl, by kernel_rfl, by kernel_rfl⟩
  · refine Wc.condF h263 (by kernel_rfl) ?_
    refine Wc.fix (st' := ⟨[(0, (.v (.sl (List.map cI.i64 a216_)), [])), (1, (.v (.sl (List.map cI.i64 a217_)), []))], [], []⟩) [] [0, 1] [] [] (by kernel_rfl) ?_
    refine Wc.skip ?_
    refine Wc.seq ?_
    refine Wc.seq ?_
    refine Wc.region [] [] [0, 1, 5] [] [] ⟨[(0, (.v (.sl (List.map cI.i64 a216_)), [])), (1, (.v (.sl (List.map cI.i64 a217_)), [])), (5, (.v (.int .i64 0), []))], [], []⟩ _ (by kernel_rfl) .nil ?_
    obtain ⟨out1, h264, h⟩ := obind h
    refine Wc.lastJ (fun st => out1 = .done () ∧ st = ⟨[], [], []⟩) ?_ ?_
    · refine Wc.block ?_
      refine Wc.loop (fun m st => ∃ (b218_ : Int), st = ⟨[(0, (.v (.sl (List.map cI.i64 a216_)), [])), (1, (.v (.sl (List.map cI.i64 a217_)), [])), (5, (.v (.int .i64 b218_), []))], [], []⟩ ∧ plaws_eqIntS_L1 k a216_ a217_ m b218_ = some out1) ?_ k ⟨_, rfl, h264⟩
      rintro m st ⟨b218_, rfl, h264⟩
      cases m with
      | zero => exact (onone h264).elim
      | succ m =>
        refine Wc.seq ?_
        refine Wc.seq ?_
        refine Wc.region [{}, {}, { v := some (.int .i64 (a216_.length : Int)) }] [] [0, 1, 5, 14] [] [] ⟨[(0, (.v (.sl (List.map cI.i64 a216_)), [])), (1, (.v (.sl (List.map cI.i64 a217_)), [])), (5, (.v (.int .i64 b218_), [])), (14, (.v (.bool (decide (b218_ < (a216_.length : Int)))), []))], [], []⟩ _ (by kernel_rfl) (.cons (len_obl cI.i64 a216_) .nil) ?_
        rcases oif h264 with ⟨h265, h264⟩ | ⟨h265, h264⟩
        · refine Wc.condT h265 (by kernel_rfl) ?_
          refine Wc.fix (st' := ⟨[(0, (.v (.sl (List.map cI.i64 a216_)), [])), (1, (.v (.sl (List.map cI.i64 a217_)), [])), (5, (.v (.int .i64 b218_), []))], [], []⟩) [] [0, 1, 5] [] [] (by kernel_rfl) ?_
          refine Wc.skip ?_
          refine Wc.seq ?_
          refine Wc.block ?_
          refine Wc.seq ?_
          obtain ⟨b219_, h266, h264⟩ := obind h264
          obtain ⟨b220_, h267, h264⟩ := obind h264
          refine Wc.draw hmix [{}, {}, { v := some (.vptr [.int .i64 b219_]) }, {}, {}, {}, { v := some (.vptr [.int .i64 b220_]) }] [] [0, 1, 5, 25] [] [] ⟨[(0, (.v (.sl (List.map cI.i64 a216_)), [])), (1, (.v (.sl (List.map cI.i64 a217_)), [])), (5, (.v (.int .i64 b218_), [])), (25, (.v (.bool (b219_ != b220_)), []))], [], []⟩ _ (by kernel_rfl) (fun X => by kernel_rfl) (.cons (at_obl (c := cI.i64) rfl cI.i64_len h266) (.cons (len_ok 1 [.int .i64 b219_]) (.cons (at_obl (c := cI.i64) rfl cI.i64_len h267) (.cons (len_ok 1 [.int .i64 b220_]) .nil)))) ?_
          rcases oif h264 with ⟨h268, h264⟩ | ⟨h268, h264⟩
          · refine Wc.condT h268 (by kernel_rfl) ?_
            refine Wc.seq ?_
            refine Wc.region [] [] [4] [] [] ⟨[(4, (.v (.bool false), []))], [], []⟩ _ (by kernel_rfl) .nil ?_
            refine Wc.ret ?_
            obtain rfl := Option.some.inj h264
            obtain rfl := Option.some.inj h
            exact ⟨.inl rfl, by kernel_rfl, by kernel_rfl⟩
          · refine Wc.condF h268 (by kernel_rfl) ?_
            refine Wc.fix (st' := ⟨[(0, (.v (.sl (List.map cI.i64 a216_)), [])), (1, (.v (.sl (List.map cI.i64 a217_)), [])), (5, (.v (.int .i64 b218_), []))], [], []⟩) [] [0, 1, 5] [] [] (by kernel_rfl) ?_
            refine Wc.skip ?_
            refine Wc.region [] [] [0, 1, 5] [] [] ⟨[(0, (.v (.sl (List.map cI.i64 a216_)), [])), (1, (.v (.sl (List.map cI.i64 a217_)), [])), (5, (.v (.int .i64 (wr.i64 (b218_ + 1))), []))], [], []⟩ _ (by kernel_rfl) .nil ?_
            exact ⟨_, Nat.lt_succ_self _, _, rfl, h264⟩
        · refine Wc.condF h265 (by kernel_rfl) ?_
          refine Wc.fix (st' := ⟨[], [], []⟩) [] [] [] [] (by kernel_rfl) ?_
          refine Wc.exit ?_
          obtain rfl := Option.some.inj h264
          exact ⟨rfl, rfl⟩
    · rintro st ⟨rfl, rfl⟩
      refine Wc.seq ?_
      refine Wc.region [] [] [4] [] [] ⟨[(4, (.v (.bool true), []))], [], []⟩ _ (by kernel_rfl) .nil ?_
      refine Wc.ret ?_
      obtain rfl := Option.some.inj h
      exact ⟨.inl rfl, by kernel_rfl, by kernel_rfl⟩

/-- laws.eqCell -/
def plaws_eqCell (k : Nat) (c221_ : GCell) (c222_ : GCell) : Option Bool :=
  if (c221_.gKind != c222_.gKind) = true then
    some false
  else
    if (!(sEq c221_.gName c222_.gName)) = true then
      some false
    else
      if (c221_.gNum != c222_.gNum) = true then
        some false
      else
        if (c221_.gTo != c222_.gTo) = true then
          some false
        else
          (plaws_eqIntS k c221_.gKids c222_.gKids).bind fun f223_ =>
          if (!f223_) = true then
            some false
          else
            some true
theorem claws_eqCell {k : Nat} {c221_ : GCell} {c222_ : GCell} {r : Bool} (h : plaws_eqCell k c221_ c222_ = some r) : FnO Try.prog 118 [.v (.agg [.int .i64 c221_.gKind, .str c221_.gName, .int .i64 c221_.gNum, .int .i64 c221_.gTo, .sl (List.map cI.i64 c221_.gKids)]) [], .v (.agg [.int .i64 c222_.gKind, .str c222_.gName, .int .i64 c222_.gNum, .int .i64 c222_.gTo, .sl (List.map cI.i64 c222_.gKids)]) []] (.v (.bool r) []) [] := by
  refine FnO.of Try.func118 (rfl : Try.f118.body = some _) (Nat.le_of_ble_eq_true (by kernel_rfl)) (Nat.le_of_ble_eq_true (by kernel_rfl)) ?_
  intro w0 X0 Fin pv0 pb
  unfold plaws_eqCell at h
  refine Wc.seq ?_
  refine Wc.region [] [] [2, 3] [2, 3] [] ⟨[(2, (.ptr 2 0, [])), (3, (.ptr 3 0, []))], [(2, .cells [.int .i64 c221_.gKind, .str c221_.gName, .int .i64 c221_.gNum, .int .i64 c221_.gTo, .sl (List.map cI.i64 c221_.gKids)] []), (3, .cells [.int .i64 c222_.gKind, .str c222_.gName, .int .i64 c222_.gNum, .int .i64 c222_.gTo, .sl (List.map cI.i64 c222_.gKids)] [])], []⟩ _ (by kernel_rfl) .nil ?_
  refine Wc.seq ?_
  refine Wc.seq ?_
  refine Wc.region [] [] [2, 3, 9] [2, 3] [] ⟨[(2, (.ptr 2 0, [])), (3, (.ptr 3 0, [])), (9, (.v (.bool (c221_.gKind != c222_.gKind)), []))], [(2, .cells [.int .i64 c221_.gKind, .str c221_.gName, .int .i64 c221_.gNum, .int .i64 c221_.gTo, .sl (List.map cI.i64 c221_.gKids)] []), (3, .cells [.int .i64 c222_.gKind, .str c222_.gName, .int .i64 c222_.gNum, .int .i64 c222_.gTo, .sl (List.map cI.i64 c222_.gKids)] [])], []⟩ _ (by kernel_rfl) .nil ?_
  rcases oif h with ⟨h269, h⟩ | ⟨h269, h⟩
  · refine Wc.condT h269 (by kernel_rfl) ?_
    refine Wc.seq ?_
    refine Wc.region [] [] [4] [] [] ⟨[(4, (.v (.bool false), []))], [], []⟩ _ (by kernel_rfl) .nil ?_
    refine Wc.ret ?_
    obtain rfl := Option.some.inj h
    exact ⟨.inl rfl, by kernel_rfl, by kernel_rfl⟩
  · refine Wc.condF h269 (by kernel_rfl) ?_
    refine Wc.fix (st' := ⟨[(2, (.ptr 2 0, [])), (3, (.ptr 3 0, []))], [(2, .cells [.int .i64 c221_.gKind, .str c221_.gName, .int .i64 c221_.gNum, .int .i64 c221_.gTo, .sl (List.map cI.i64 c221_.gKids)] []), (3, .cells [.int .i64 c222_.gKind, .str c222_.gName, .int .i64 c222_.gNum, .int .i64 c222_.gTo, .sl (List.map cI.i64 c222_.gKids)] [])], []⟩) [] [2, 3] [2, 3] [] (by kernel_rfl) ?_
    refine Wc.skip ?_
    refine Wc.seq ?_
    refine Wc.seq ?_
    refine Wc.region [] [] [2, 3, 14] [2, 3] [] ⟨[(2, (.ptr 2 0, [])), (3, (.ptr 3 0, [])), (14, (.v (.bool (!(sEq c221_.gName c222_.gName))), []))], [(2, .cells [.int .i64 c221_.gKind, .str c221_.gName, .int .i64 c221_.gNum, .int .i64 c221_.gTo, .sl (List.map cI.i64 c221_.gKids)] []), (3, .cells [.int .i64 c222_.gKind, .str c222_.gName, .int .i64 c222_.gNum, .int .i64 c222_.gTo, .sl (List.map cI.i64 c222_.gKids)] [])], []⟩ _ (by kernel_rfl) .nil ?_
    rcases oif h with ⟨h270, h⟩ | ⟨h270, h⟩
    · refine Wc.condT h270 (by kernel_rfl) ?_
      refine Wc.seq ?_
      refine Wc.region [] [] [4] [] [] ⟨[(4, (.v (.bool false), []))], [], []⟩ _ (by kernel_rfl) .nil ?_
      refine Wc.ret ?_
      obtain rfl := Option.some.inj h
      exact ⟨.inl rfl, by kernel_rfl, by kernel_rfl⟩
    · refine Wc.condF h270 (by kernel_rfl) ?_
      refine Wc.fix (st' := ⟨[(2, (.ptr 2 0, [])), (3, (.ptr 3 0, []))], [(2, .cells [.int .i64 c221_.gKind, .str c221_.gName, .int .i64 c221_.gNum, .int .i64 c221_.gTo, .sl (List.map cI.i64 c221_.gKids)] []), (3, .cells [.int .i64 c222_.gKind, .str c222_.gName, .int .i64 c222_.gNum, .int .i64 c222_.gTo, .sl (List.map cI.i64 c222_.gKids)] [])], []⟩) [] [2, 3] [2, 3] [] (by kernel_rfl) ?_
      refine Wc.skip ?_
      refine Wc.seq ?_
      refine Wc.seq ?_
      refine Wc.region [] [] [2, 3, 19] [2, 3] [] ⟨[(2, (.ptr 2 0, [])), (3, (.ptr 3 0, [])), (19, (.v (.bool (c221_.gNum != c222_.gNum)), []))], [(2, .cells [.int .i64 c221_.gKind, .str c221_.gName, .int .i64 c221_.gNum, .int .i64 c221_.gTo, .sl (List.map cI.i64 c221_.gKids)] []), (3, .cells [.int .i64 c222_.gKind, .str c222_.gName, .int .i64 c222_.gNum, .int .i64 c222_.gTo, .sl (List.map cI.i64 c222_.gKids)] [])], []⟩ _ (by kernel_rfl) .nil ?_
      rcases oif h with ⟨h271, h⟩ | ⟨h271, h⟩
      · refine Wc.condT h271 (by kernel_rfl) ?_
        refine Wc.seq ?_
        refine Wc.region [] [] [4] [] [] ⟨[(4, (.v (.bool false), []))], [], []⟩ _ (by kernel_rfl) .nil ?_
        refine Wc.ret ?_
        obtain rfl := Option.some.inj h
        exact ⟨.inl rfl, by kernel_rfl, by kernel_rfl⟩
      · refine Wc.condF h271 (by kernel_rfl) ?_
        refine Wc.fix (st' := ⟨[(2, (.ptr 2 0, [])), (3, (.ptr 3 0, []))], [(2, .cells [.int .i64 c221_.gKind, .str c221_.gName, .int .i64 c221_.gNum, .int .i64 c221_.gTo, .sl (List.map cI.i64 c221_.gKids)] []), (3, .cells [.int .i64 c222_.gKind, .str c222_.gName, .int .i64 c222_.gNum, .int .i64 c222_.gTo, .sl (List.map cI.i64 c222_.gKids)] [])], []⟩) [] [2, 3] [2, 3] [] (by kernel_rfl) ?_
        refine Wc.skip ?_
        refine Wc.seq ?_
        refine Wc.seq ?_
        refine Wc.region [] [] [2, 3, 24] [2, 3] [] ⟨[(2, (.ptr 2 0, [])), (3, (.ptr 3 0, [])), (24, (.v (.bool (c221_.gTo != c222_.gTo)), []))], [(2, .cells [.int .i64 c221_.gKind, .str c221_.gName, .int .i64 c221_.gNum, .int .i64 c221_.gTo, .sl (List.map cI.i64 c221_.gKids)] []), (3, .cells [.int .i64 c222_.gKind, .str c222_.gName, .int .i64 c222_.gNum, .int .i64 c222_.gTo, .sl (List.map cI.i64 c222_.gKids)] [])], []⟩ _ (by kernel_rfl) .nil ?_
        rcases oif h with ⟨h272, h⟩ | ⟨h272, h⟩
        · refine Wc.condT h272 (by kernel_rfl) ?_
          refine Wc.seq ?_
          refine Wc.region [] [] [4] [] [] ⟨[(4, (.v (.bool false), []))], [], []⟩ _ (by kernel_rfl) .nil ?_
          refine Wc.ret ?_
          obtain rfl := Option.some.inj h
          exact ⟨.inl rfl, by kernel_rfl, by kernel_rfl⟩
        · refine Wc.condF h272 (by kernel_rfl) ?_
          refine Wc.fix (st' := ⟨[(2, (.ptr 2 0, [])), (3, (.ptr 3 0, []))], [(2, .cells [.int .i64 c221_.gKind, .str c221_.gName, .int .i64 c221_.gNum, .int .i64 c221_.gTo, .sl (List.map cI.i64 c221_.gKids)] []), (3, .cells [.int .i64 c222_.gKind, .str c222_.gName, .int .i64 c222_.gNum, .int .i64 c222_.gTo, .sl (List.map cI.i64 c222_.gKids)] [])], []⟩) [] [2, 3] [2, 3] [] (by kernel_rfl) ?_
          refine Wc.skip ?_
          refine Wc.seq ?_
          refine Wc.seq ?_
          obtain ⟨f223_, h273, h⟩ := obind h
          refine Wc.region [{}, {}, {}, {}, { r := some (.v (.bool f223_) []) }] [] [30] [] [] ⟨[(30, (.v (.bool (!f223_)), []))], [], []⟩ _ (by kernel_rfl) (.cons (claws_eqIntS h273) .nil) ?_
          rcases oif h with ⟨h274, h⟩ | ⟨h274, h⟩
          · refine Wc.condT h274 (by kernel_rfl) ?_
            refine Wc.seq ?_
            refine Wc.region [] [] [4] [] [] ⟨[(4, (.v (.bool false), []))], [], []⟩ _ (by kernel_rfl) .nil ?_
            refine Wc.ret ?_
            obtain rfl := Option.some.inj h
            exact ⟨.inl rfl, by kernel_rfl, by kernel_rfl⟩
          · refine Wc.condF h274 (by kernel_rfl) ?_
            refine Wc.fix (st' := ⟨[], [], []⟩) [] [] [] [] (by kernel_rfl) ?_
            refine Wc.skip ?_
            refine Wc.seq ?_
            refine Wc.region [] [] [4] [] [] ⟨[(4, (.v (.bool true), []))], [], []⟩ _ (by kernel_rfl) .nil ?_
            refine Wc.ret ?_
            obtain rfl := Option.some.inj h
            exact ⟨.inl rfl, by kernel_rfl, by kernel_rfl⟩

def plaws_eqCellS_L1 (k : Nat) (d224_ : List GCell) (d225_ : List GCell) : Nat → Int → Option (Out Bool Unit)
  | 0, _ => none
  | m + 1, b226_ =>
    if (decide (b226_ < (d224_.length : Int))) = true then
      (at' d224_ b226_).bind fun c227_ =>
      (at' d225_ b226_).bind fun c228_ =>
      (plaws_eqCell k c227_ c228_).bind fun f229_ =>
      if (!f229_) = true then
        some (.ret false)
      else
        plaws_eqCellS_L1 k d224_ d225_ m (wr.i64 (b226_ + 1))
    else
      some (.done ())
/-- laws.eqCellS -/
def plaws_eqCellS (k : Nat) (d224_ : List GCell) (d225_ : List GCell) : Option Bool :=
  if ((d224_.length : Int) != (d225_.length : Int)) = true then
    some false
  else
    (plaws_eqCellS_L1 k d224_ d225_ k 0).bind fun out1 => match out1 with
    | .ret r => some r
    | .done () =>
      some true
theorem claws_eqCellS {k : Nat} {d224_ : List GCell} {d225_ : List GCell} {r : Bool} (h : plaws_eqCellS k d224_ d225_ = some r) : FnO Try.prog 72 [.v (.sl (List.map GCell.c d224_)) [], .v (.sl (List.map GCell.c d225_)) []] (.v (.bool r) []) [] := by
  refine FnO.of Try.func72 (rfl : Try.f72.body = some _) (Nat.le_of_ble_eq_true (by kernel_rfl)) (Nat.le_of_ble_eq_true (by kernel_rfl)) ?_
  intro w0 X0 Fin pv0 pb
  unfold plaws_eqCellS at h
  refine Wc.seq ?_
  refine Wc.region [] [] [0, 1] [] [] ⟨[(0, (.v (.sl (List.map GCell.c d224_)), [])), (1, (.v (.sl (List.map GCell.c d225_)), []))], [], []⟩ _ (by kernel_rfl) .nil ?_
  refine Wc.seq ?_
  refine Wc.seq ?_
  refine Wc.region [{}, { v := some (.int .i64 (d224_.length : Int)) }, {}, { v := some (.int .i64 (d225_.length : Int)) }] [] [0, 1, 10] [] [] ⟨[(0, (.v (.sl (List.map GCell.c d224_)), [])), (1, (.v (.sl (List.map GCell.c d225_)), [])), (10, (.v (.bool ((d224_.length : Int) != (d225_.length : Int))), []))], [], []⟩ _ (by kernel_rfl) (.cons (len_obl GCell.c d224_) (.cons (len_obl GCell.c d225_) .nil)) ?_
  rcases oif h with ⟨h275, h⟩ | ⟨h275, h⟩
  · refine Wc.condT h275 (by kernel_rfl) ?_
    refine Wc.seq ?_
    refine Wc.region [] [] [4] [] [] ⟨[(4, (.v (.bool false), []))], [], []⟩ _ (by kernel_rfl) .nil ?_
    refine Wc.ret ?_
    obtain rfl := Option.some.inj h
    exact ⟨.inl rfl, by kernel_rfl, by kernel_rfl⟩
  · refine Wc.condF h275 (by kernel_rfl) ?_
    refine Wc.fix (st' := ⟨[(0, (.v (.sl (List.map GCell.c d224_)), [])), (1, (.v (.sl (List.map GCell.c d225_)), []))], [], []⟩) [] [0, 1] [] [] (by kernel_rfl) ?_
    refine Wc.skip ?_
    refine Wc.seq ?_
    refine Wc.seq ?_
    refine Wc.region [] [] [0, 1, 5] [] [] ⟨[(0, (.v (.sl (List.map GCell.c d224_)), [])), (1, (.v (.sl (List.map GCell.c d225_)), [])), (5, (.v (.int .i64 0), []))], [], []⟩ _ (by kernel_rfl) .nil ?_
    obtain ⟨out1, h276, h⟩ := obind h
    refine Wc.lastJ (fun st => out1 = .done () ∧ st = ⟨[], [], []⟩) ?_ ?_
    · refine Wc.block ?_
      refine Wc.loop (fun m st => ∃ (b226_ : Int), st = ⟨[(0, (.v (.sl (List.map GCell.c d224_)), [])), (1, (.v (.sl (List.map GCell.c d225_)), [])), (5, (.v (.int .i64 b226_), []))], [], []⟩ ∧ plaws_eqCellS_L1 k d224_ d225_ m b226_ = some out1) ?_ k ⟨_, rfl, h276⟩
      rintro m st ⟨b226_, rfl, h276⟩
      cases m with
      | zero => exact (onone h276).elim
      | succ m =>
        refine Wc.seq ?_
        refine Wc.seq ?_
        refine Wc.region [{}, {}, { v := some (.int .i64 (d224_.length : Int)) }] [] [0, 1, 5, 14] [] [] ⟨[(0, (.v (.sl (List.map GCell.c d224_)), [])), (1, (.v (.sl (List.map GCell.c d225_)), [])), (5, (.v (.int .i64 b226_), [])), (14, (.v (.bool (decide (b226_ < (d224_.length : Int)))), []))], [], []⟩ _ (by kernel_rfl) (.cons (len_obl GCell.c d224_) .nil) ?_
        rcases oif h276 with ⟨h277, h276⟩ | ⟨h277, h276⟩
        · refine Wc.condT h277 (by kernel_rfl) ?_
          refine Wc.fix (st' := ⟨[(0, (.v (.sl (List.map GCell.c d224_)), [])), (1, (.v (.sl (List.map GCell.c d225_)), [])), (5, (.v (.int .i64 b226_), []))], [], []⟩) [] [0, 1, 5] [] [] (by kernel_rfl) ?_
          refine Wc.skip ?_
          refine Wc.seq ?_
          refine Wc.block ?_
          refine Wc.seq ?_
          obtain ⟨c227_, h278, h276⟩ := obind h276
          obtain ⟨c228_, h279, h276⟩ := obind h276
          obtain ⟨f229_, h280, h276⟩ := obind h276
          refine Wc.draw hmix [{}, {}, { v := some (.vptr [.int .i64 c227_.gKind, .str c227_.gName, .int .i64 c227_.gNum, .int .i64 c227_.gTo, .sl (List.map cI.i64 c227_.gKids)]) }, {}, {}, {}, { v := some (.vptr [.int .i64 c228_.gKind, .str c228_.gName, .int .i64 c228_.gNum, .int .i64 c228_.gTo, .sl (List.map cI.i64 c228_.gKids)]) }, {}, { r := some (.v (.bool f229_) []) }] [] [0, 1, 5, 26] [] [] ⟨[(0, (.v (.sl (List.map GCell.c d224_)), [])), (1, (.v (.sl (List.map GCell.c d225_)), [])), (5, (.v (.int .i64 b226_), [])), (26, (.v (.bool (!f229_)), []))], [], []⟩ _ (by kernel_rfl) (fun X => by kernel_rfl) (.cons (at_obl (c := GCell.c) (GCell.c_eq c227_) GCell.c_len h278) (.cons (len_ok 5 [.int .i64 c227_.gKind, .str c227_.gName, .int .i64 c227_.gNum, .int .i64 c227_.gTo, .sl (List.map cI.i64 c227_.gKids)]) (.cons (at_obl (c := GCell.c) (GCell.c_eq c228_) GCell.c_len h279) (.cons (len_ok 5 [.int .i64 c228_.gKind, .str c228_.gName, .int .i64 c228_.gNum, .int .i64 c228_.gTo, .sl (List.map cI.i64 c228_.gKids)]) (.cons (claws_eqCell h280) .nil))))) ?_
          rcases oif h276 with ⟨h281, h276⟩ | ⟨h281, h276⟩
          · refine Wc.condT h281 (by kernel_rfl) ?_
            refine Wc.seq ?_
            refine Wc.region [] [] [4] [] [] ⟨[(4, (.v (.bool false), []))], [], []⟩ _ (by kernel_rfl) .nil ?_
            refine Wc.ret ?_
            obtain rfl := Option.some.inj h276
            obtain rfl := Option.some.inj h
            exact ⟨.inl rfl, by kernel_rfl, by kernel_rfl⟩
          · refine Wc.condF h281 (by kernel_rfl) ?_
            refine Wc.fix (st' := ⟨[(0, (.v (.sl (List.map GCell.c d224_)), [])), (1, (.v (.sl (List.map GCell.c d225_)), [])), (5, (.v (.int .i64 b226_), []))], [], []⟩) [] [0, 1, 5] [] [] (by kernel_rfl) ?_
            refine Wc.skip ?_
            refine Wc.region [] [] [0, 1, 5] [] [] ⟨[(0, (.v (.sl (List.map GCell.c d224_)), [])), (1, (.v (.sl (List.map GCell.c d225_)), [])), (5, (.v (.int .i64 (wr.i64 (b226_ + 1))), []))], [], []⟩ _ (by kernel_rfl) .nil ?_
            exact ⟨_, Nat.lt_succ_self _, _, rfl, h276⟩
        · refine Wc.condF h277 (by kernel_rfl) ?_
          refine Wc.fix (st' := ⟨[], [], []⟩) [] [] [] [] (by kernel_rfl) ?_
          refine Wc.exit ?_
          obtain rfl := Option.some.inj h276
          exact ⟨rfl, rfl⟩
    · rintro st ⟨rfl, rfl⟩
      refine Wc.seq ?_
      refine Wc.region [] [] [4] [] [] ⟨[(4, (.v (.bool true), []))], [], []⟩ _ (by kernel_rfl) .nil ?_
      refine Wc.ret ?_
      obtain rfl := Option.some.inj h
      exact ⟨.inl rfl, by kernel_rfl, by kernel_rfl⟩

/-- laws.eqHeap -/
def plaws_eqHeap (k : Nat) (e230_ : GHeap) (e231_ : GHeap) : Option Bool :=
  (plaws_eqCellS k e230_.gCells e231_.gCells).bind fun f232_ =>
  if (!f232_) = true then
    some false
  else
    (plaws_eqIntS k e230_.gTrail e231_.gTrail).bind fun f233_ =>
    if (!f233_) = true then
      some false
    else
      some true
theorem claws_eqHeap {k : Nat} {e230_ : GHeap} {e231_ : GHeap} {r : Bool} (h : plaws_eqHeap k e230_ e231_ = some r) : FnO Try.prog 21 [.v (.agg [.sl (List.map GCell.c e230_.gCells), .sl (List.map cI.i64 e230_.gTrail)]) [], .v (.agg [.sl (List.map GCell.c e231_.gCells), .sl (List.map cI.i64 e231_.gTrail)]) []] (.v (.bool r) []) [] := by
  refine FnO.of Try.func21 (rfl : Try.f21.body = some _) (Nat.le_of_ble_eq_true (by kernel_rfl)) (Nat.le_of_ble_eq_true (by kernel_rfl)) ?_
  intro w0 X0 Fin pv0 pb
  unfold plaws_eqHeap at h
  refine Wc.seq ?_
  refine Wc.region [] [] [2, 3] [2, 3] [] ⟨[(2, (.ptr 2 0, [])), (3, (.ptr 3 0, []))], [(2, .cells [.sl (List.map GCell.c e230_.gCells), .sl (List.map cI.i64 e230_.gTrail)] []), (3, .cells [.sl (List.map GCell.c e231_.gCells), .sl (List.map cI.i64 e231_.gTrail)] [])], []⟩ _ (by kernel_rfl) .nil ?_
  refine Wc.seq ?_
  refine Wc.seq ?_
  obtain ⟨f232_, h282, h⟩ := obind h
  refine Wc.region [{}, {}, {}, {}, { r := some (.v (.bool f232_) []) }] [] [2, 3, 10] [2, 3] [] ⟨[(2, (.ptr 2 0, [])), (3, (.ptr 3 0, [])), (10, (.v (.bool (!f232_)), []))], [(2, .cells [.sl (List.map GCell.c e230_.gCells), .sl (List.map cI.i64 e230_.gTrail)] []), (3, .cells [.sl (List.map GCell.c e231_.gCells), .sl (List.map cI.i64 e231_.gTrail)] [])], []⟩ _ (by kernel_rfl) (.cons (claws_eqCellS h282) .nil) ?_
  rcases oif h with ⟨h283, h⟩ | ⟨h283, h⟩
  · refine Wc.condT h283 (by kernel_rfl) ?_
    refine Wc.seq ?_
    refine Wc.region [] [] [4] [] [] ⟨[(4, (.v (.bool false), []))], [], []⟩ _ (by kernel_rfl) .nil ?_
    refine Wc.ret ?_
    obtain rfl := Option.some.inj h
    exact ⟨.inl rfl, by kernel_rfl, by kernel_rfl⟩
  · refine Wc.condF h283 (by kernel_rfl) ?_
    refine Wc.fix (st' := ⟨[(2, (.ptr 2 0, [])), (3, (.ptr 3 0, []))], [(2, .cells [.sl (List.map GCell.c e230_.gCells), .sl (List.map cI.i64 e230_.gTrail)] []), (3, .cells [.sl (List.map GCell.c e231_.gCells), .sl (List.map cI.i64 e231_.gTrail)] [])], []⟩) [] [2, 3] [2, 3] [] (by kernel_rfl) ?_
    refine Wc.skip ?_
    refine Wc.seq ?_
    refine Wc.seq ?_
    obtain ⟨f233_, h284, h⟩ := obind h
    refine Wc.region [{}, {}, {}, {}, { r := some (.v (.bool f233_) []) }] [] [16] [] [] ⟨[(16, (.v (.bool (!f233_)), []))], [], []⟩ _ (by kernel_rfl) (.cons (claws_eqIntS h284) .nil) ?_
    rcases oif h with ⟨h285, h⟩ | ⟨h285, h⟩
    · refine Wc.condT h285 (by kernel_rfl) ?_
      refine Wc.seq ?_
      refine Wc.region [] [] [4] [] [] ⟨[(4, (.v (.bool false), []))], [], []⟩ _ (by kernel_rfl) .nil ?_
      refine Wc.ret ?_
      obtain rfl := Option.some.inj h
      exact ⟨.inl rfl, by kernel_rfl, by kernel_rfl⟩
    · refine Wc.condF h285 (by kernel_rfl) ?_
      refine Wc.fix (st' := ⟨[], [], []⟩) [] [] [] [] (by kernel_rfl) ?_
      refine Wc.skip ?_
      refine Wc.seq ?_
      refine Wc.region [] [] [4] [] [] ⟨[(4, (.v (.bool true), []))], [], []⟩ _ (by kernel_rfl) .nil ?_
      refine Wc.ret ?_
      obtain rfl := Option.some.inj h
      exact ⟨.inl rfl, by kernel_rfl, by kernel_rfl⟩

def plaws_markIntS_L1 (k : Nat) : Nat → Int → Int → (List Int) → Option (Out ((List Int) × Int) (Int × (List Int)))
  | 0, _, _, _ => none
  | m + 1, b236_, b237_, a238_ =>
    if (decide (b237_ < (a238_.length : Int))) = true then
      (at' a238_ b237_).bind fun b241_ =>
      plaws_markIntS_L1 k m (wr.i64 (b236_ + 1)) (wr.i64 (b237_ + 1)) (a238_.set ((b237_).toNat) b236_)
    else
      some (.done (b236_, a238_))
/-- laws.markIntS -/
def plaws_markIntS (k : Nat) (a234_ : List Int) (b235_ : Int) : Option ((List Int) × Int) :=
  (plaws_markIntS_L1 k k b235_ 0 a234_).bind fun out1 => match out1 with
  | .ret r => some r
  | .done (b239_, a240_) =>
    some (a240_, b239_)
theorem claws_markIntS {k : Nat} {a234_ : List Int} {b235_ : Int} {r : (List Int) × Int} (h : plaws_markIntS k a234_ b235_ = some r) : FnO Try.prog 75 [.io (.slx) [(0, .ex 1000000007 true (List.map cI.i64 a234_))], .v (.int .i64 b235_) []] (.v (.int .i64 r.2) []) [(0, .v .undef [(0, .ex 1000000007 true (List.map cI.i64 r.1))])] := by
  refine FnO.of Try.func75 (rfl : Try.f75.body = some _) (Nat.le_of_ble_eq_true (by kernel_rfl)) (Nat.le_of_ble_eq_true (by kernel_rfl)) ?_
  intro w0 X0 Fin pv0 pb
  unfold plaws_markIntS at h
  refine Wc.seq ?_
  refine Wc.region [] [] [0, 1] [] [0] ⟨[(0, (.v (.slx), [(0, .al (.a 0 0) [])])), (1, (.v (.int .i64 b235_), []))], [], [(0, [(0, .ex 1000000007 true (List.map cI.i64 a234_))])]⟩ _ (by kernel_rfl) .nil ?_
  refine Wc.seq ?_
  refine Wc.seq ?_
  refine Wc.region [] [] [0, 1, 5] [] [0] ⟨[(0, (.v (.slx), [(0, .al (.a 0 0) [])])), (1, (.v (.int .i64 b235_), [])), (5, (.v (.int .i64 0), []))], [], [(0, [(0, .ex 1000000007 true (List.map cI.i64 a234_))])]⟩ _ (by kernel_rfl) .nil ?_
  obtain ⟨out1, h286, h⟩ := obind h
  refine Wc.lastJ (fun st => ∃ (b239_ : Int) (a240_ : List Int), out1 = .done (b239_, a240_) ∧ st = ⟨[(1, (.v (.int .i64 b239_), []))], [], [(0, [(0, .ex 1000000007 true (List.map cI.i64 a240_))])]⟩) ?_ ?_
  · refine Wc.block ?_
    refine Wc.loop (fun m st => ∃ (b236_ : Int) (b237_ : Int) (a238_ : List Int), st = ⟨[(0, (.v (.slx), [(0, .al (.a 0 0) [])])), (1, (.v (.int .i64 b236_), [])), (5, (.v (.int .i64 b237_), []))], [], [(0, [(0, .ex 1000000007 true (List.map cI.i64 a238_))])]⟩ ∧ plaws_markIntS_L1 k m b236_ b237_ a238_ = some out1) ?_ k ⟨_, _, _, rfl, h286⟩
    rintro m st ⟨b236_, b237_, a238_, rfl, h286⟩
    cases m with
    | zero => exact (onone h286).elim
    | succ m =>
      refine Wc.seq ?_
      refine Wc.seq ?_
      refine Wc.region [{}, {}, { v := some (.int .i64 (a238_.length : Int)) }] [] [0, 1, 5, 9] [] [0] ⟨[(0, (.v (.slx), [(0, .al (.a 0 0) [])])), (1, (.v (.int .i64 b236_), [])), (5, (.v (.int .i64 b237_), [])), (9, (.v (.bool (decide (b237_ < (a238_.length : Int)))), []))], [], [(0, [(0, .ex 1000000007 true (List.map cI.i64 a238_))])]⟩ _ (by kernel_rfl) (.cons (len_obl cI.i64 a238_) .nil) ?_
      rcases oif h286 with ⟨h287, h286⟩ | ⟨h287, h286⟩
      · refine Wc.condT h287 (by kernel_rfl) ?_
        refine Wc.fix (st' := ⟨[(0, (.v (.slx), [(0, .al (.a 0 0) [])])), (1, (.v (.int .i64 b236_), [])), (5, (.v (.int .i64 b237_), []))], [], [(0, [(0, .ex 1000000007 true (List.map cI.i64 a238_))])]⟩) [] [0, 1, 5] [] [0] (by kernel_rfl) ?_
        refine Wc.skip ?_
        refine Wc.seq ?_
        refine Wc.block ?_
        refine Wc.seq ?_
        obtain ⟨b241_, h288, h286⟩ := obind h286
        refine Wc.region [{}, {}, {}, {}, { c := some (List.map cI.i64 (a238_.set ((b237_).toNat) b236_)) }] [] [0, 1, 5] [] [0] ⟨[(0, (.v (.slx), [(0, .al (.a 0 0) [])])), (1, (.v (.int .i64 b236_), [])), (5, (.v (.int .i64 b237_), []))], [], [(0, [(0, .ex 1000000007 true (List.map cI.i64 (a238_.set ((b237_).toNat) b236_)))])]⟩ _ (by kernel_rfl) (.cons (ix_obl (c := cI.i64) cI.i64_len h288) (.cons (mod_obl (off := 0) (new := [.int .i64 b236_]) (c := cI.i64) rfl rfl (at'_spec h288).2 rfl) (.cons (st_obl (sz := 1) (off := 0) (s := 1) (c := cI.i64) rfl (at'_spec h288).2 rfl (Nat.le_of_ble_eq_true rfl)) .nil))) ?_
        refine Wc.region [] [] [0, 1, 5] [] [0] ⟨[(0, (.v (.slx), [(0, .al (.a 0 0) [])])), (1, (.v (.int .i64 (wr.i64 (b236_ + 1))), [])), (5, (.v (.int .i64 b237_), []))], [], [(0, [(0, .ex 1000000007 true (List.map cI.i64 (a238_.set ((b237_).toNat) b236_)))])]⟩ _ (by kernel_rfl) .nil ?_
        refine Wc.region [] [] [0, 1, 5] [] [0] ⟨[(0, (.v (.slx), [(0, .al (.a 0 0) [])])), (1, (.v (.int .i64 (wr.i64 (b236_ + 1))), [])), (5, (.v (.int .i64 (wr.i64 (b237_ + 1))), []))], [], [(0, [(0, .ex 1000000007 true (List.map cI.i64 (a238_.set ((b237_).toNat) b236_)))])]⟩ _ (by kernel_rfl) .nil ?_
        exact ⟨_, Nat.lt_succ_self _, _, _, _, rfl, h286⟩
      · refine Wc.condF h287 (by kernel_rfl) ?_
        refine Wc.fix (st' := ⟨[(1, (.v (.int .i64 b236_), []))], [], [(0, [(0, .ex 1000000007 true (List.map cI.i64 a238_))])]⟩) [] [1] [] [0] (by kernel_rfl) ?_
        refine Wc.exit ?_
        obtain rfl := Option.some.inj h286
        exact ⟨_, _, rfl, rfl⟩
  · rintro st ⟨b239_, a240_, rfl, rfl⟩
    refine Wc.seq ?_
    refine Wc.region [] [] [4] [] [0] ⟨[(4, (.v (.int .i64 b239_), []))], [], [(0, [(0, .ex 1000000007 true (List.map cI.i64 a240_))])]⟩ _ (by kernel_rfl) .nil ?_
    refine Wc.ret ?_
    obtain rfl := Option.some.inj h
    exact ⟨.inl rfl, by kernel_rfl, by kernel_rfl⟩

def plaws_markText_L1 (k : Nat) : Nat → Int → ByteArray → Option (Out ByteArray ByteArray)
  | 0, _, _ => none
  | m + 1, b243_, g244_ =>
    if (decide (b243_ > 0)) = true then
      if (10 : Int) ≠ 0 then
        if sumOk (strOfNums [wr.u8 (wr.i64 (48 + (Int.tmod b243_ 10)))]) g244_ then
          if (10 : Int) ≠ 0 then
            plaws_markText_L1 k m (wr.i64 (Int.tdiv b243_ 10)) ((strOfNums [wr.u8 (wr.i64 (48 + (Int.tmod b243_ 10)))]) ++ g244_)
          else none
        else none
      else none
    else
      some (.done g244_)
/-- laws.markText -/
def plaws_markText (k : Nat) (b242_ : Int) : Option ByteArray :=
  if (decide (b242_ ≤ 0)) = true then
    some (bs [109, 48])
  else
    (plaws_markText_L1 k k b242_ (bs [])).bind fun out1 => match out1 with
    | .ret r => some r
    | .done g245_ =>
      if sumOk (bs [109]) g245_ then
        some ((bs [109]) ++ g245_)
      else none
theorem claws_markText {k : Nat} {b242_ : Int} {r : ByteArray} (h : plaws_markText k b242_ = some r) : FnO Try.prog 108 [.v (.int .i64 b242_) []] (.v (.str r) []) [] := by
  refine FnO.of Try.func108 (rfl : Try.f108.body = some _) (Nat.le_of_ble_eq_true (by kernel_rfl)) (Nat.le_of_ble_eq_true (by kernel_rfl)) ?_
  intro w0 X0 Fin pv0 pb
  unfold plaws_markText at h
  refine Wc.seq ?_
  refine Wc.region [] [] [0] [] [] ⟨[(0, (.v (.int .i64 b242_), []))], [], []⟩ _ (by kernel_rfl) .nil ?_
  refine Wc.seq ?_
  refine Wc.seq ?_
  refine Wc.region [] [] [0, 5] [] [] ⟨[(0, (.v (.int .i64 b242_), [])), (5, (.v (.bool (decide (b242_ ≤ 0))), []))], [], []⟩ _ (by kernel_rfl) .nil ?_
  rcases oif h with ⟨h289, h⟩ | ⟨h289, h⟩
  · refine Wc.condT h289 (by kernel_rfl) ?_
    refine Wc.seq ?_
    refine Wc.region [] [] [2] [] [] ⟨[(2, (.v (.str (bs [109, 48])), []))], [], []⟩ _ (by kernel_rfl) .nil ?_
    refine Wc.ret ?_
    obtain rfl := Option.some.inj h
    exact ⟨.inl rfl, by kernel_rfl, by kernel_rfl⟩
  · refine Wc.condF h289 (by kernel_rfl) ?_
    refine Wc.fix (st' := ⟨[(0, (.v (.int .i64 b242_), []))], [], []⟩) [] [0] [] [] (by kernel_rfl) ?_
    refine Wc.skip ?_
    refine Wc.seq ?_
    refine Wc.region [] [] [0, 3] [] [] ⟨[(0, (.v (.int .i64 b242_), [])), (3, (.v (.str (bs [])), []))], [], []⟩ _ (by kernel_rfl) .nil ?_
    obtain ⟨out1, h290, h⟩ := obind h
    refine Wc.seqJ (fun st => ∃ (g245_ : ByteArray), out1 = .done g245_ ∧ st = ⟨[(3, (.v (.str g245_), []))], [], []⟩) ?_ ?_
    · refine Wc.block ?_
      refine Wc.loop (fun m st => ∃ (b243_ : Int) (g244_ : ByteArray), st = ⟨[(0, (.v (.int .i64 b243_), [])), (3, (.v (.str g244_), []))], [], []⟩ ∧ plaws_markText_L1 k m b243_ g244_ = some out1) ?_ k ⟨_, _, rfl, h290⟩
      rintro m st ⟨b243_, g244_, rfl, h290⟩
      cases m with
      | zero => exact (onone h290).elim
      | succ m =>
        refine Wc.seq ?_
        refine Wc.seq ?_
        refine Wc.region [] [] [0, 3, 7] [] [] ⟨[(0, (.v (.int .i64 b243_), [])), (3, (.v (.str g244_), [])), (7, (.v (.bool (decide (b243_ > 0))), []))], [], []⟩ _ (by kernel_rfl) .nil ?_
        rcases oif h290 with ⟨h291, h290⟩ | ⟨h291, h290⟩
        · refine Wc.condT h291 (by kernel_rfl) ?_
          refine Wc.fix (st' := ⟨[(0, (.v (.int .i64 b243_), [])), (3, (.v (.str g244_), []))], [], []⟩) [] [0, 3] [] [] (by kernel_rfl) ?_
          refine Wc.skip ?_
          refine Wc.block ?_
          refine Wc.seq ?_
          obtain ⟨h292, h290⟩ := oguard h290
          obtain ⟨h293, h290⟩ := oguard h290
          refine Wc.region [{}, {}, {}, {}, { c := some (List.map cI.u8 [wr.u8 (wr.i64 (48 + (Int.tmod b243_ 10)))]) }, { v := some (.str (strOfNums [wr.u8 (wr.i64 (48 + (Int.tmod b243_ 10)))])) }] [] [0, 3] [] [] ⟨[(0, (.v (.int .i64 b243_), [])), (3, (.v (.str ((strOfNums [wr.u8 (wr.i64 (48 + (Int.tmod b243_ 10)))]) ++ g244_)), []))], [], []⟩ _ (by kernel_rfl) (.cons h292 (.cons (cl_cons (c := cI.u8) (x := wr.u8 (wr.i64 (48 + (Int.tmod b243_ 10)))) rfl (cl_nil cI.u8)) (.cons (bytes_obl [wr.u8 (wr.i64 (48 + (Int.tmod b243_ 10)))]) (.cons h293 .nil)))) ?_
          obtain ⟨h294, h290⟩ := oguard h290
          refine Wc.region [] [] [0, 3] [] [] ⟨[(0, (.v (.int .i64 (wr.i64 (Int.tdiv b243_ 10))), [])), (3, (.v (.str ((strOfNums [wr.u8 (wr.i64 (48 + (Int.tmod b243_ 10)))]) ++ g244_)), []))], [], []⟩ _ (by kernel_rfl) (.cons h294 .nil) ?_
          exact ⟨_, Nat.lt_succ_self _, _, _, rfl, h290⟩
        · refine Wc.condF h291 (by kernel_rfl) ?_
          refine Wc.fix (st' := ⟨[(3, (.v (.str g244_), []))], [], []⟩) [] [3] [] [] (by kernel_rfl) ?_
          refine Wc.exit ?_
          obtain rfl := Option.some.inj h290
          exact ⟨_, rfl, rfl⟩
    · rintro st ⟨g245_, rfl, rfl⟩
      refine Wc.seq ?_
      obtain ⟨h295, h⟩ := oguard h
      refine Wc.region [] [] [2] [] [] ⟨[(2, (.v (.str ((bs [109]) ++ g245_)), []))], [], []⟩ _ (by kernel_rfl) (.cons h295 .nil) ?_
      refine Wc.ret ?_
      obtain rfl := Option.some.inj h
      exact ⟨.inl rfl, by kernel_rfl, by kernel_rfl⟩

def plaws_markCellS_L1 (k : Nat) : Nat → Int → Int → (List GCell) → Option (Out ((List GCell) × Int) (Int × (List GCell)))
  | 0, _, _, _ => none
  | m + 1, b248_, b249_, d250_ =>
    if (decide (b249_ < (d250_.length : Int))) = true then
      (at' d250_ b249_).bind fun c253_ =>
      (plaws_markText k (wr.i64 (b248_ + 1))).bind fun g254_ =>
      (at' (d250_.set ((b249_).toNat) (GCell.mk b248_ c253_.gName c253_.gNum c253_.gTo c253_.gKids)) b249_).bind fun c255_ =>
      (at' ((d250_.set ((b249_).toNat) (GCell.mk b248_ c253_.gName c253_.gNum c253_.gTo c253_.gKids)).set ((b249_).toNat) (GCell.mk c255_.gKind g254_ c255_.gNum c255_.gTo c255_.gKids)) b249_).bind fun c256_ =>
      (at' (((d250_.set ((b249_).toNat) (GCell.mk b248_ c253_.gName c253_.gNum c253_.gTo c253_.gKids)).set ((b249_).toNat) (GCell.mk c255_.gKind g254_ c255_.gNum c255_.gTo c255_.gKids)).set ((b249_).toNat) (GCell.mk c256_.gKind c256_.gName (wr.i64 ((wr.i64 (b248_ + 1)) + 1)) c256_.gTo c256_.gKids)) b249_).bind fun c257_ =>
      (at' ((((d250_.set ((b249_).toNat) (GCell.mk b248_ c253_.gName c253_.gNum c253_.gTo c253_.gKids)).set ((b249_).toNat) (GCell.mk c255_.gKind g254_ c255_.gNum c255_.gTo c255_.gKids)).set ((b249_).toNat) (GCell.mk c256_.gKind c256_.gName (wr.i64 ((wr.i64 (b248_ + 1)) + 1)) c256_.gTo c256_.gKids)).set ((b249_).toNat) (GCell.mk c257_.gKind c257_.gName c257_.gNum (wr.i64 ((wr.i64 ((wr.i64 (b248_ + 1)) + 1)) + 1)) c257_.gKids)) b249_).bind fun c258_ =>
      (plaws_markIntS k c258_.gKids (wr.i64 ((wr.i64 ((wr.i64 ((wr.i64 (b248_ + 1)) + 1)) + 1)) + 1))).bind fun s259_ =>
      plaws_markCellS_L1 k m s259_.2 (wr.i64 (b249_ + 1)) (((((d250_.set ((b249_).toNat) (GCell.mk b248_ c253_.gName c253_.gNum c253_.gTo c253_.gKids)).set ((b249_).toNat) (GCell.mk c255_.gKind g254_ c255_.gNum c255_.gTo c255_.gKids)).set ((b249_).toNat) (GCell.mk c256_.gKind c256_.gName (wr.i64 ((wr.i64 (b248_ + 1)) + 1)) c256_.gTo c256_.gKids)).set ((b249_).toNat) (GCell.mk c257_.gKind c257_.gName c257_.gNum (wr.i64 ((wr.i64 ((wr.i64 (b248_ + 1)) + 1)) + 1)) c257_.gKids)).set ((b249_).toNat) (GCell.mk c258_.gKind c258_.gName c258_.gNum c258_.gTo s259_.1))
    else
      some (.done (b248_, d250_))
/-- laws.markCellS -/
def plaws_markCellS (k : Nat) (d246_ : List GCell) (b247_ : Int) : Option ((List GCell) × Int) :=
  (plaws_markCellS_L1 k k b247_ 0 d246_).bind fun out1 => match out1 with
  | .ret r => some r
  | .done (b251_, d252_) =>
    some (d252_, b251_)
set_option maxHeartbeats 4000000 in
theorem claws_markCellS {k : Nat} {d246_ : List GCell} {b247_ : Int} {r : (List GCell) × Int} (h : plaws_markCellS k d246_ b247_ = some r) : FnO Try.prog 74 [.io (.slx) [(0, .ex 1000000007 true (List.map GCell.c d246_))], .v (.int .i64 b247_) []] (.v (.int .i64 r.2) []) [(0, .v .undef [(0, .ex 1000000007 true (List.map GCell.c r.1))])] := by
  refine FnO.of Try.func74 (rfl : Try.f74.body = some _) (Nat.le_of_ble_eq_true (by kernel_rfl)) (Nat.le_of_ble_eq_true (by kernel_rfl)) ?_
  intro w0 X0 Fin pv0 pb
  unfold plaws_markCellS at h
  refine Wc.seq ?_
  refine Wc.region [] [] [0, 1] [] [0] ⟨[(0, (.v (.slx), [(0, .al (.a 0 0) [])])), (1, (.v (.int .i64 b247_), []))], [], [(0, [(0, .ex 1000000007 true (List.map GCell.c d246_))])]⟩ _ (by kernel_rfl) .nil ?_
  refine Wc.seq ?_
  refine Wc.seq ?_
  refine Wc.region [] [] [0, 1, 5] [] [0] ⟨[(0, (.v (.slx), [(0, .al (.a 0 0) [])])), (1, (.v (.int .i64 b247_), [])), (5, (.v (.int .i64 0), []))], [], [(0, [(0, .ex 1000000007 true (List.map GCell.c d246_))])]⟩ _ (by kernel_rfl) .nil ?_
  obtain ⟨out1, h296, h⟩ := obind h
  refine Wc.lastJ (fun st => ∃ (b251_ : Int) (d252_ : List GCell), out1 = .done (b251_, d252_) ∧ st = ⟨[(1, (.v (.int .i64 b251_), []))], [], [(0, [(0, .ex 1000000007 true (List.map GCell.c d252_))])]⟩) ?_ ?_
  · refine Wc.block ?_
    refine Wc.loop (fun m st => ∃ (b248_ : Int) (b249_ : Int) (d250_ : List GCell), st = ⟨[(0, (.v (.slx), [(0, .al (.a 0 0) [])])), (1, (.v (.int .i64 b248_), [])), (5, (.v (.int .i64 b249_), []))], [], [(0, [(0, .ex 1000000007 true (List.map GCell.c d250_))])]⟩ ∧ plaws_markCellS_L1 k m b248_ b249_ d250_ = some out1) ?_ k ⟨_, _, _, rfl, h296⟩
    rintro m st ⟨b248_, b249_, d250_, rfl, h296⟩
    cases m with
    | zero => exact (onone h296).elim
    | succ m =>
      refine Wc.seq ?_
      refine Wc.seq ?_
      refine Wc.region [{}, {}, { v := some (.int .i64 (d250_.length : Int)) }] [] [0, 1, 5, 9] [] [0] ⟨[(0, (.v (.slx), [(0, .al (.a 0 0) [])])), (1, (.v (.int .i64 b248_), [])), (5, (.v (.int .i64 b249_), [])), (9, (.v (.bool (decide (b249_ < (d250_.length : Int)))), []))], [], [(0, [(0, .ex 1000000007 true (List.map GCell.c d250_))])]⟩ _ (by kernel_rfl) (.cons (len_obl GCell.c d250_) .nil) ?_
      rcases oif h296 with ⟨h297, h296⟩ | ⟨h297, h296⟩
      · refine Wc.condT h297 (by kernel_rfl) ?_
        refine Wc.fix (st' := ⟨[(0, (.v (.slx), [(0, .al (.a 0 0) [])])), (1, (.v (.int .i64 b248_), [])), (5, (.v (.int .i64 b249_), []))], [], [(0, [(0, .ex 1000000007 true (List.map GCell.c d250_))])]⟩) [] [0, 1, 5] [] [0] (by kernel_rfl) ?_
        refine Wc.skip ?_
        refine Wc.seq ?_
        refine Wc.block ?_
        refine Wc.seq ?_
        obtain ⟨c253_, h298, h296⟩ := obind h296
        refine Wc.region [{}, {}, {}, {}, {}, { c := some (List.map GCell.c (d250_.set ((b249_).toNat) (GCell.mk b248_ c253_.gName c253_.gNum c253_.gTo c253_.gKids))) }] [] [0, 1, 5] [] [0] ⟨[(0, (.v (.slx), [(0, .al (.a 0 0) [])])), (1, (.v (.int .i64 b248_), [])), (5, (.v (.int .i64 b249_), []))], [], [(0, [(0, .ex 1000000007 true (List.map GCell.c (d250_.set ((b249_).toNat) (GCell.mk b248_ c253_.gName c253_.gNum c253_.gTo c253_.gKids))))])]⟩ _ (by kernel_rfl) (.cons (ix_obl (c := GCell.c) GCell.c_len h298) (.cons (mod_obl (off := 0) (new := [.int .i64 b248_]) (c := GCell.c) (GCell.c_eq c253_) (GCell.c_eq (GCell.mk b248_ c253_.gName c253_.gNum c253_.gTo c253_.gKids)) (at'_spec h298).2 rfl) (.cons (st_obl (sz := 5) (off := 0) (s := 1) (c := GCell.c) (GCell.c_eq c253_) (at'_spec h298).2 rfl (Nat.le_of_ble_eq_true rfl)) .nil))) ?_
        refine Wc.seq ?_
        refine Wc.region [] [] [0, 1, 5] [] [0] ⟨[(0, (.v (.slx), [(0, .al (.a 0 0) [])])), (1, (.v (.int .i64 (wr.i64 (b248_ + 1))), [])), (5, (.v (.int .i64 b249_), []))], [], [(0, [(0, .ex 1000000007 true (List.map GCell.c (d250_.set ((b249_).toNat) (GCell.mk b248_ c253_.gName c253_.gNum c253_.gTo c253_.gKids))))])]⟩ _ (by kernel_rfl) .nil ?_
        refine Wc.seq ?_
        obtain ⟨g254_, h299, h296⟩ := obind h296
        obtain ⟨c255_, h300, h296⟩ := obind h296
        refine Wc.region [{}, {}, {}, { r := some (.v (.str g254_) []) }, {}, {}, { c := some (List.map GCell.c ((d250_.set ((b249_).toNat) (GCell.mk b248_ c253_.gName c253_.gNum c253_.gTo c253_.gKids)).set ((b249_).toNat) (GCell.mk c255_.gKind g254_ c255_.gNum c255_.gTo c255_.gKids))) }] [] [0, 1, 5] [] [0] ⟨[(0, (.v (.slx), [(0, .al (.a 0 0) [])])), (1, (.v (.int .i64 (wr.i64 (b248_ + 1))), [])), (5, (.v (.int .i64 b249_), []))], [], [(0, [(0, .ex 1000000007 true (List.map GCell.c ((d250_.set ((b249_).toNat) (GCell.mk b248_ c253_.gName c253_.gNum c253_.gTo c253_.gKids)).set ((b249_).toNat) (GCell.mk c255_.gKind g254_ c255_.gNum c255_.gTo c255_.gKids))))])]⟩ _ (by kernel_rfl) (.cons (claws_markText h299) (.cons (ix_obl (c := GCell.c) GCell.c_len h300) (.cons (mod_obl (off := 1) (new := [.str g254_]) (c := GCell.c) (GCell.c_eq c255_) (GCell.c_eq (GCell.mk c255_.gKind g254_ c255_.gNum c255_.gTo c255_.gKids)) (at'_spec h300).2 rfl) (.cons (st_obl (sz := 5) (off := 1) (s := 1) (c := GCell.c) (GCell.c_eq c255_) (at'_spec h300).2 rfl (Nat.le_of_ble_eq_true rfl)) .nil)))) ?_
        refine Wc.seq ?_
        refine Wc.region [] [] [0, 1, 5] [] [0] ⟨[(0, (.v (.slx), [(0, .al (.a 0 0) [])])), (1, (.v (.int .i64 (wr.i64 ((wr.i64 (b248_ + 1)) + 1))), [])), (5, (.v (.int .i64 b249_), []))], [], [(0, [(0, .ex 1000000007 true (List.map GCell.c ((d250_.set ((b249_).toNat) (GCell.mk b248_ c253_.gName c253_.gNum c253_.gTo c253_.gKids)).set ((b249_).toNat) (GCell.mk c255_.gKind g254_ c255_.gNum c255_.gTo c255_.gKids))))])]⟩ _ (by kernel_rfl) .nil ?_
        refine Wc.seq ?_
        obtain ⟨c256_, h301, h296⟩ := obind h296
        refine Wc.region [{}, {}, {}, {}, {}, { c := some (List.map GCell.c (((d250_.set ((b249_).toNat) (GCell.mk b248_ c253_.gName c253_.gNum c253_.gTo c253_.gKids)).set ((b249_).toNat) (GCell.mk c255_.gKind g254_ c255_.gNum c255_.gTo c255_.gKids)).set ((b249_).toNat) (GCell.mk c256_.gKind c256_.gName (wr.i64 ((wr.i64 (b248_ + 1)) + 1)) c256_.gTo c256_.gKids))) }] [] [0, 1, 5] [] [0] ⟨[(0, (.v (.slx), [(0, .al (.a 0 0) [])])), (1, (.v (.int .i64 (wr.i64 ((wr.i64 (b248_ + 1)) + 1))), [])), (5, (.v (.int .i64 b249_), []))], [], [(0, [(0, .ex 1000000007 true (List.map GCell.c (((d250_.set ((b249_).toNat) (GCell.mk b248_ c253_.gName c253_.gNum c253_.gTo c253_.gKids)).set ((b249_).toNat) (GCell.mk c255_.gKind g254_ c255_.gNum c255_.gTo c255_.gKids)).set ((b249_).toNat) (GCell.mk c256_.gKind c256_.gName (wr.i64 ((wr.i64 (b248_ + 1)) + 1)) c256_.gTo c256_.gKids))))])]⟩ _ (by kernel_rfl) (.cons (ix_obl (c := GCell.c) GCell.c_len h301) (.cons (mod_obl (off := 2) (new := [.int .i64 (wr.i64 ((wr.i64 (b248_ + 1)) + 1))]) (c := GCell.c) (GCell.c_eq c256_) (GCell.c_eq (GCell.mk c256_.gKind c256_.gName (wr.i64 ((wr.i64 (b248_ + 1)) + 1)) c256_.gTo c256_.gKids)) (at'_spec h301).2 rfl) (.cons (st_obl (sz := 5) (off := 2) (s := 1) (c := GCell.c) (GCell.c_eq c256_) (at'_spec h301).2 rfl (Nat.le_of_ble_eq_true rfl)) .nil))) ?_
        refine Wc.seq ?_
        refine Wc.region [] [] [0, 1, 5] [] [0] ⟨[(0, (.v (.slx), [(0, .al (.a 0 0) [])])), (1, (.v (.int .i64 (wr.i64 ((wr.i64 ((wr.i64 (b248_ + 1)) + 1)) + 1))), [])), (5, (.v (.int .i64 b249_), []))], [], [(0, [(0, .ex 1000000007 true (List.map GCell.c (((d250_.set ((b249_).toNat) (GCell.mk b248_ c253_.gName c253_.gNum c253_.gTo c253_.gKids)).set ((b249_).toNat) (GCell.mk c255_.gKind g254_ c255_.gNum c255_.gTo c255_.gKids)).set ((b249_).toNat) (GCell.mk c256_.gKind c256_.gName (wr.i64 ((wr.i64 (b248_ + 1)) + 1)) c256_.gTo c256_.gKids))))])]⟩ _ (by kernel_rfl) .nil ?_
        refine Wc.seq ?_
        obtain ⟨c257_, h302, h296⟩ := obind h296
        refine Wc.region [{}, {}, {}, {}, {}, { c := some (List.map GCell.c ((((d250_.set ((b249_).toNat) (GCell.mk b248_ c253_.gName c253_.gNum c253_.gTo c253_.gKids)).set ((b249_).toNat) (GCell.mk c255_.gKind g254_ c255_.gNum c255_.gTo c255_.gKids)).set ((b249_).toNat) (GCell.mk c256_.gKind c256_.gName (wr.i64 ((wr.i64 (b248_ + 1)) + 1)) c256_.gTo c256_.gKids)).set ((b249_).toNat) (GCell.mk c257_.gKind c257_.gName c257_.gNum (wr.i64 ((wr.i64 ((wr.i64 (b248_ + 1)) + 1)) + 1)) c257_.gKids))) }] [] [0, 1, 5] [] [0] ⟨[(0, (.v (.slx), [(0, .al (.a 0 0) [])])), (1, (.v (.int .i64 (wr.i64 ((wr.i64 ((wr.i64 (b248_ + 1)) + 1)) + 1))), [])), (5, (.v (.int .i64 b249_), []))], [], [(0, [(0, .ex 1000000007 true (List.map GCell.c ((((d250_.set ((b249_).toNat) (GCell.mk b248_ c253_.gName c253_.gNum c253_.gTo c253_.gKids)).set ((b249_).toNat) (GCell.mk c255_.gKind g254_ c255_.gNum c255_.gTo c255_.gKids)).set ((b249_).toNat) (GCell.mk c256_.gKind c256_.gName (wr.i64 ((wr.i64 (b248_ + 1)) + 1)) c256_.gTo c256_.gKids)).set ((b249_).toNat) (GCell.mk c257_.gKind c257_.gName c257_.gNum (wr.i64 ((wr.i64 ((wr.i64 (b248_ + 1)) + 1)) + 1)) c257_.gKids))))])]⟩ _ (by kernel_rfl) (.cons (ix_obl (c := GCell.c) GCell.c_len h302) (.cons (mod_obl (off := 3) (new := [.int .i64 (wr.i64 ((wr.i64 ((wr.i64 (b248_ + 1)) + 1)) + 1))]) (c := GCell.c) (GCell.c_eq c257_) (GCell.c_eq (GCell.mk c257_.gKind c257_.gName c257_.gNum (wr.i64 ((wr.i64 ((wr.i64 (b248_ + 1)) + 1)) + 1)) c257_.gKids)) (at'_spec h302).2 rfl) (.cons (st_obl (sz := 5) (off := 3) (s := 1) (c := GCell.c) (GCell.c_eq c257_) (at'_spec h302).2 rfl (Nat.le_of_ble_eq_true rfl)) .nil))) ?_
        refine Wc.seq ?_
        refine Wc.region [] [] [0, 1, 5] [] [0] ⟨[(0, (.v (.slx), [(0, .al (.a 0 0) [])])), (1, (.v (.int .i64 (wr.i64 ((wr.i64 ((wr.i64 ((wr.i64 (b248_ + 1)) + 1)) + 1)) + 1))), [])), (5, (.v (.int .i64 b249_), []))], [], [(0, [(0, .ex 1000000007 true (List.map GCell.c ((((d250_.set ((b249_).toNat) (GCell.mk b248_ c253_.gName c253_.gNum c253_.gTo c253_.gKids)).set ((b249_).toNat) (GCell.mk c255_.gKind g254_ c255_.gNum c255_.gTo c255_.gKids)).set ((b249_).toNat) (GCell.mk c256_.gKind c256_.gName (wr.i64 ((wr.i64 (b248_ + 1)) + 1)) c256_.gTo c256_.gKids)).set ((b249_).toNat) (GCell.mk c257_.gKind c257_.gName c257_.gNum (wr.i64 ((wr.i64 ((wr.i64 (b248_ + 1)) + 1)) + 1)) c257_.gKids))))])]⟩ _ (by kernel_rfl) .nil ?_
        obtain ⟨c258_, h303, h296⟩ := obind h296
        obtain ⟨s259_, h304, h296⟩ := obind h296
        refine Wc.region [{}, {}, {}, {}, { v := some (.slx) }, {}, { c := some (List.map GCell.c (((((d250_.set ((b249_).toNat) (GCell.mk b248_ c253_.gName c253_.gNum c253_.gTo c253_.gKids)).set ((b249_).toNat) (GCell.mk c255_.gKind g254_ c255_.gNum c255_.gTo c255_.gKids)).set ((b249_).toNat) (GCell.mk c256_.gKind c256_.gName (wr.i64 ((wr.i64 (b248_ + 1)) + 1)) c256_.gTo c256_.gKids)).set ((b249_).toNat) (GCell.mk c257_.gKind c257_.gName c257_.gNum (wr.i64 ((wr.i64 ((wr.i64 (b248_ + 1)) + 1)) + 1)) c257_.gKids)).set ((b249_).toNat) (GCell.mk c258_.gKind c258_.gName c258_.gNum c258_.gTo s259_.1))), io := [0], r := some (.v (.int .i64 s259_.2) []), outs := [(0, .v .undef [(0, .ex 1000000007 true (List.map cI.i64 s259_.1))])], ioc := [(0, .ex 1000000007 true (List.map cI.i64 c258_.gKids))] }] [] [0, 1, 5] [] [0] ⟨[(0, (.v (.slx), [(0, .al (.a 0 0) [])])), (1, (.v (.int .i64 s259_.2), [])), (5, (.v (.int .i64 b249_), []))], [], [(0, [(0, .ex 1000000007 true (List.map GCell.c (((((d250_.set ((b249_).toNat) (GCell.mk b248_ c253_.gName c253_.gNum c253_.gTo c253_.gKids)).set ((b249_).toNat) (GCell.mk c255_.gKind g254_ c255_.gNum c255_.gTo c255_.gKids)).set ((b249_).toNat) (GCell.mk c256_.gKind c256_.gName (wr.i64 ((wr.i64 (b248_ + 1)) + 1)) c256_.gTo c256_.gKids)).set ((b249_).toNat) (GCell.mk c257_.gKind c257_.gName c257_.gNum (wr.i64 ((wr.i64 ((wr.i64 (b248_ + 1)) + 1)) + 1)) c257_.gKids)).set ((b249_).toNat) (GCell.mk c258_.gKind c258_.gName c258_.gNum c258_.gTo s259_.1))))])]⟩ _ (by kernel_rfl) (.cons (ix_obl (c := GCell.c) GCell.c_len h303) (.cons (el_oblD (sz := 5) (off := 4) (s := 1) (ag := false) (v := .slx) (c := GCell.c) (GCell.c_eq c258_) (at'_spec h303).2 rfl (Nat.le_of_ble_eq_true rfl) rfl) (.cons (own_obl (own := [(0, .al (.a 0 0) [(((b249_).toNat), 5, 4)])]) (p := .a 0 0) (m := (b249_).toNat) (sz := 5) (off := 4) (js := [0]) rfl) (.cons (seg_obl (sz := 5) (off := 4) (n := [.sl (List.map cI.i64 c258_.gKids)]) (c := GCell.c) (GCell.c_eq c258_) (at'_spec h303).2 rfl (Nat.le_of_ble_eq_true rfl) rfl) (.cons (mod_obl (off := 4) (new := [.sl (List.map cI.i64 s259_.1)]) (c := GCell.c) (GCell.c_eq c258_) (GCell.c_eq (GCell.mk c258_.gKind c258_.gName c258_.gNum c258_.gTo s259_.1)) (at'_spec h303).2 rfl) (.cons (FnO.any (args := [.io (.slx) [(0, .ex 1000000007 true (List.map cI.i64 c258_.gKids))], .v (.int .i64 (wr.i64 ((wr.i64 ((wr.i64 ((wr.i64 (b248_ + 1)) + 1)) + 1)) + 1))) []]) (claws_markIntS h304)) .nil)))))) ?_
        refine Wc.region [] [] [0, 1, 5] [] [0] ⟨[(0, (.v (.slx), [(0, .al (.a 0 0) [])])), (1, (.v (.int .i64 s259_.2), [])), (5, (.v (.int .i64 (wr.i64 (b249_ + 1))), []))], [], [(0, [(0, .ex 1000000007 true (List.map GCell.c (((((d250_.set ((b249_).toNat) (GCell.mk b248_ c253_.gName c253_.gNum c253_.gTo c253_.gKids)).set ((b249_).toNat) (GCell.mk c255_.gKind g254_ c255_.gNum c255_.gTo c255_.gKids)).set ((b249_).toNat) (GCell.mk c256_.gKind c256_.gName (wr.i64 ((wr.i64 (b248_ + 1)) + 1)) c256_.gTo c256_.gKids)).set ((b249_).toNat) (GCell.mk c257_.gKind c257_.gName c257_.gNum (wr.i64 ((wr.i64 ((wr.i64 (b248_ + 1)) + 1)) + 1)) c257_.gKids)).set ((b249_).toNat) (GCell.mk c258_.gKind c258_.gName c258_.gNum c258_.gTo s259_.1))))])]⟩ _ (by kernel_rfl) .nil ?_
        exact ⟨_, Nat.lt_succ_self _, _, _, _, rfl, h296⟩
      · refine Wc.condF h297 (by kernel_rfl) ?_
        refine Wc.fix (st' := ⟨[(1, (.v (.int .i64 b248_), []))], [], [(0, [(0, .ex 1000000007 true (List.map GCell.c d250_))])]⟩) [] [1] [] [0] (by kernel_rfl) ?_
        refine Wc.exit ?_
        obtain rfl := Option.some.inj h296
        exact ⟨_, _, rfl, rfl⟩
  · rintro st ⟨b251_, d252_, rfl, rfl⟩
    refine Wc.seq ?_
    refine Wc.region [] [] [4] [] [0] ⟨[(4, (.v (.int .i64 b251_), []))], [], [(0, [(0, .ex 1000000007 true (List.map GCell.c d252_))])]⟩ _ (by kernel_rfl) .nil ?_
    refine Wc.ret ?_
    obtain rfl := Option.some.inj h
    exact ⟨.inl rfl, by kernel_rfl, by kernel_rfl⟩

/-- laws.markHeap -/
def plaws_markHeap (k : Nat) (e260_ : GHeap) (b261_ : Int) : Option (GHeap × Int) :=
  (plaws_markCellS k e260_.gCells b261_).bind fun t262_ =>
  (plaws_markIntS k e260_.gTrail t262_.2).bind fun s263_ =>
  some (GHeap.mk t262_.1 s263_.1, s263_.2)
theorem claws_markHeap {k : Nat} {e260_ : GHeap} {b261_ : Int} {r : GHeap × Int} (h : plaws_markHeap k e260_ b261_ = some r) : FnO Try.prog 22 [.io (.agg [.slx, .slx]) [(0, .ex 1000000007 true (List.map GCell.c e260_.gCells)), (1, .ex 1000000007 true (List.map cI.i64 e260_.gTrail))], .v (.int .i64 b261_) []] (.v (.int .i64 r.2) []) [(0, .v .undef [(0, .ex 1000000007 true (List.map GCell.c r.1.gCells)), (1, .ex 1000000007 true (List.map cI.i64 r.1.gTrail))])] := by
  refine FnO.of Try.func22 (rfl : Try.f22.body = some _) (Nat.le_of_ble_eq_true (by kernel_rfl)) (Nat.le_of_ble_eq_true (by kernel_rfl)) ?_
  intro w0 X0 Fin pv0 pb
  unfold plaws_markHeap at h
  refine Wc.seq ?_
  refine Wc.region [] [] [1, 2] [2] [0] ⟨[(1, (.v (.int .i64 b261_), [])), (2, (.ptr 2 0, []))], [(2, .cells [.slx, .slx] [(0, .al (.a 0 0) []), (1, .al (.a 0 1) [])])], [(0, [(0, .ex 1000000007 true (List.map GCell.c e260_.gCells)), (1, .ex 1000000007 true (List.map cI.i64 e260_.gTrail))])]⟩ _ (by kernel_rfl) .nil ?_
  refine Wc.seq ?_
  obtain ⟨t262_, h305, h⟩ := obind h
  refine Wc.region [{}, {}, {}, { io := [0], r := some (.v (.int .i64 t262_.2) []), outs := [(0, .v .undef [(0, .ex 1000000007 true (List.map GCell.c t262_.1))])] }] [] [1, 2] [2] [0] ⟨[(1, (.v (.int .i64 t262_.2), [])), (2, (.ptr 2 0, []))], [(2, .cells [.slx, .slx] [(0, .al (.a 0 0) []), (1, .al (.a 0 1) [])])], [(0, [(0, .ex 1000000007 true (List.map GCell.c t262_.1)), (1, .ex 1000000007 true (List.map cI.i64 e260_.gTrail))])]⟩ _ (by kernel_rfl) (.cons (FnO.any (args := [.io (.slx) [(0, .ex 1000000007 true (List.map GCell.c e260_.gCells))], .v (.int .i64 b261_) []]) (claws_markCellS h305)) .nil) ?_
  refine Wc.seq ?_
  obtain ⟨s263_, h306, h⟩ := obind h
  refine Wc.region [{}, {}, {}, { io := [0], r := some (.v (.int .i64 s263_.2) []), outs := [(0, .v .undef [(0, .ex 1000000007 true (List.map cI.i64 s263_.1))])] }] [] [1] [] [0] ⟨[(1, (.v (.int .i64 s263_.2), []))], [], [(0, [(0, .ex 1000000007 true (List.map GCell.c t262_.1)), (1, .ex 1000000007 true (List.map cI.i64 s263_.1))])]⟩ _ (by kernel_rfl) (.cons (FnO.any (args := [.io (.slx) [(0, .ex 1000000007 true (List.map cI.i64 e260_.gTrail))], .v (.int .i64 t262_.2) []]) (claws_markIntS h306)) .nil) ?_
  refine Wc.seq ?_
  refine Wc.region [] [] [4] [] [0] ⟨[(4, (.v (.int .i64 s263_.2), []))], [], [(0, [(0, .ex 1000000007 true (List.map GCell.c t262_.1)), (1, .ex 1000000007 true (List.map cI.i64 s263_.1))])]⟩ _ (by kernel_rfl) .nil ?_
  refine Wc.ret ?_
  obtain rfl := Option.some.inj h
  exact ⟨.inl rfl, by kernel_rfl, by kernel_rfl⟩

def plaws_markTermS_L1 (k : Nat) (rlaws_markTermS : (List GTerm) → Int → Option ((List GTerm) × Int)) : Nat → Int → Int → (List GTerm) → Option (Out ((List GTerm) × Int) (Int × (List GTerm)))
  | 0, _, _, _ => none
  | m + 1, b266_, b267_, r268_ =>
    if (decide (b267_ < (r268_.length : Int))) = true then
      (at' r268_ b267_).bind fun i271_ =>
      (plaws_markText k (wr.i64 (b266_ + 1))).bind fun g272_ =>
      (at' (r268_.set ((b267_).toNat) (GTerm.mk b266_ i271_.gName i271_.gNum i271_.gKids)) b267_).bind fun i273_ =>
      (at' ((r268_.set ((b267_).toNat) (GTerm.mk b266_ i271_.gName i271_.gNum i271_.gKids)).set ((b267_).toNat) (GTerm.mk i273_.gKind g272_ i273_.gNum i273_.gKids)) b267_).bind fun i274_ =>
      (at' (((r268_.set ((b267_).toNat) (GTerm.mk b266_ i271_.gName i271_.gNum i271_.gKids)).set ((b267_).toNat) (GTerm.mk i273_.gKind g272_ i273_.gNum i273_.gKids)).set ((b267_).toNat) (GTerm.mk i274_.gKind i274_.gName (wr.i64 ((wr.i64 (b266_ + 1)) + 1)) i274_.gKids)) b267_).bind fun i275_ =>
      (rlaws_markTermS i275_.gKids (wr.i64 ((wr.i64 ((wr.i64 (b266_ + 1)) + 1)) + 1))).bind fun u276_ =>
      plaws_markTermS_L1 k rlaws_markTermS m u276_.2 (wr.i64 (b267_ + 1)) ((((r268_.set ((b267_).toNat) (GTerm.mk b266_ i271_.gName i271_.gNum i271_.gKids)).set ((b267_).toNat) (GTerm.mk i273_.gKind g272_ i273_.gNum i273_.gKids)).set ((b267_).toNat) (GTerm.mk i274_.gKind i274_.gName (wr.i64 ((wr.i64 (b266_ + 1)) + 1)) i274_.gKids)).set ((b267_).toNat) (GTerm.mk i275_.gKind i275_.gName i275_.gNum u276_.1))
    else
      some (.done (b266_, r268_))
mutual
/-- laws.markTermS -/
def plaws_markTermS : Nat → (List GTerm) → Int → Option ((List GTerm) × Int)
  | 0, _, _ => none
  | k + 1, r264_, b265_ =>
    (plaws_markTermS_L1 k (plaws_markTermS k) k b265_ 0 r264_).bind fun out1 => match out1 with
    | .ret r => some r
    | .done (b269_, r270_) =>
      some (r270_, b269_)
end
theorem all_plaws_markTermS : ∀ k : Nat, (∀ {r264_ : List GTerm} {b265_ : Int} {r : (List GTerm) × Int}, plaws_markTermS k r264_ b265_ = some r → FnO Try.prog 76 [.io (.slx) [(0, .ex 1000000007 true (List.map GTerm.c r264_))], .v (.int .i64 b265_) []] (.v (.int .i64 r.2) []) [(0, .v .undef [(0, .ex 1000000007 true (List.map GTerm.c r.1))])]) := by
  intro k
  induction k with
  | zero =>
    · intro r264_ b265_ r h
      exact (onone (by rw [plaws_markTermS] at h; exact h)).elim
  | succ k ih =>
    have ih_plaws_markTermS := @ih
    · intro r264_ b265_ r h
      rw [plaws_markTermS] at h
      refine FnO.of Try.func76 (rfl : Try.f76.body = some _) (Nat.le_of_ble_eq_true (by kernel_rfl)) (Nat.le_of_ble_eq_true (by kernel_rfl)) ?_
      intro w0 X0 Fin pv0 pb
      refine Wc.seq ?_
      refine Wc.region [] [] [0, 1] [] [0] ⟨[(0, (.v (.slx), [(0, .al (.a 0 0) [])])), (1, (.v (.int .i64 b265_), []))], [], [(0, [(0, .ex 1000000007 true (List.map GTerm.c r264_))])]⟩ _ (by kernel_rfl) .nil ?_
      refine Wc.seq ?_
      refine Wc.seq ?_
      refine Wc.region [] [] [0, 1, 5] [] [0] ⟨[(0, (.v (.slx), [(0, .al (.a 0 0) [])])), (1, (.v (.int .i64 b265_), [])), (5, (.v (.int .i64 0), []))], [], [(0, [(0, .ex 1000000007 true (List.map GTerm.c r264_))])]⟩ _ (by kernel_rfl) .nil ?_
      obtain ⟨out1, h307, h⟩ := obind h
      refine Wc.lastJ (fun st => ∃ (b269_ : Int) (r270_ : List GTerm), out1 = .done (b269_, r270_) ∧ st = ⟨[(1, (.v (.int .i64 b269_), []))], [], [(0, [(0, .ex 1000000007 true (List.map GTerm.c r270_))])]⟩) ?_ ?_
      · refine Wc.block ?_
        refine Wc.loop (fun m st => ∃ (b266_ : Int) (b267_ : Int) (r268_ : List GTerm), st = ⟨[(0, (.v (.slx), [(0, .al (.a 0 0) [])])), (1, (.v (.int .i64 b266_), [])), (5, (.v (.int .i64 b267_), []))], [], [(0, [(0, .ex 1000000007 true (List.map GTerm.c r268_))])]⟩ ∧ plaws_markTermS_L1 k (plaws_markTermS k) m b266_ b267_ r268_ = some out1) ?_ k ⟨_, _, _, rfl, h307⟩
        rintro m st ⟨b266_, b267_, r268_, rfl, h307⟩
        cases m with
        | zero => exact (onone h307).elim
        | succ m =>
          refine Wc.seq ?_
          refine Wc.seq ?_
          refine Wc.region [{}, {}, { v := some (.int .i64 (r268_.length : Int)) }] [] [0, 1, 5, 9] [] [0] ⟨[(0, (.v (.slx), [(0, .al (.a 0 0) [])])), (1, (.v (.int .i64 b266_), [])), (5, (.v (.int .i64 b267_), [])), (9, (.v (.bool (decide (b267_ < (r268_.length : Int)))), []))], [], [(0, [(0, .ex 1000000007 true (List.map GTerm.c r268_))])]⟩ _ (by kernel_rfl) (.cons (len_obl GTerm.c r268_) .nil) ?_
          rcases oif h307 with ⟨h308, h307⟩ | ⟨h308, h307⟩
          · refine Wc.condT h308 (by kernel_rfl) ?_
            refine Wc.fix (st' := ⟨[(0, (.v (.slx), [(0, .al (.a 0 0) [])])), (1, (.v (.int .i64 b266_), [])), (5, (.v (.int .i64 b267_), []))], [], [(0, [(0, .ex 1000000007 true (List.map GTerm.c r268_))])]⟩) [] [0, 1, 5] [] [0] (by kernel_rfl) ?_
            refine Wc.skip ?_
            refine Wc.seq ?_
            refine Wc.block ?_
            refine Wc.seq ?_
            obtain ⟨i271_, h309, h307⟩ := obind h307
            refine Wc.region [{}, {}, {}, {}, {}, { c := some (List.map GTerm.c (r268_.set ((b267_).toNat) (GTerm.mk b266_ i271_.gName i271_.gNum i271_.gKids))) }] [] [0, 1, 5] [] [0] ⟨[(0, (.v (.slx), [(0, .al (.a 0 0) [])])), (1, (.v (.int .i64 b266_), [])), (5, (.v (.int .i64 b267_), []))], [], [(0, [(0, .ex 1000000007 true (List.map GTerm.c (r268_.set ((b267_).toNat) (GTerm.mk b266_ i271_.gName i271_.gNum i271_.gKids))))])]⟩ _ (by kernel_rfl) (.cons (ix_obl (c := GTerm.c) GTerm.c_len h309) (.cons (mod_obl (off := 0) (new := [.int .i64 b266_]) (c := GTerm.c) (GTerm.c_eq i271_) (GTerm.c_eq (GTerm.mk b266_ i271_.gName i271_.gNum i271_.gKids)) (at'_spec h309).2 rfl) (.cons (st_obl (sz := 4) (off := 0) (s := 1) (c := GTerm.c) (GTerm.c_eq i271_) (at'_spec h309).2 rfl (Nat.le_of_ble_eq_true rfl)) .nil))) ?_
            refine Wc.seq ?_
            refine Wc.region [] [] [0, 1, 5] [] [0] ⟨[(0, (.v (.slx), [(0, .al (.a 0 0) [])])), (1, (.v (.int .i64 (wr.i64 (b266_ + 1))), [])), (5, (.v (.int .i64 b267_), []))], [], [(0, [(0, .ex 1000000007 true (List.map GTerm.c (r268_.set ((b267_).toNat) (GTerm.mk b266_ i271_.gName i271_.gNum i271_.gKids))))])]⟩ _ (by kernel_rfl) .nil ?_
            refine Wc.seq ?_
            obtain ⟨g272_, h310, h307⟩ := obind h307
            obtain ⟨i273_, h311, h307⟩ := obind h307
            refine Wc.region [{}, {}, {}, { r := some (.v (.str g272_) []) }, {}, {}, { c := some (List.map GTerm.c ((r268_.set ((b267_).toNat) (GTerm.mk b266_ i271_.gName i271_.gNum i271_.gKids)).set ((b267_).toNat) (GTerm.mk i273_.gKind g272_ i273_.gNum i273_.gKids))) }] [] [0, 1, 5] [] [0] ⟨[(0, (.v (.slx), [(0, .al (.a 0 0) [])])), (1, (.v (.int .i64 (wr.i64 (b266_ + 1))), [])), (5, (.v (.int .i64 b267_), []))], [], [(0, [(0, .ex 1000000007 true (List.map GTerm.c ((r268_.set ((b267_).toNat) (GTerm.mk b266_ i271_.gName i271_.gNum i271_.gKids)).set ((b267_).toNat) (GTerm.mk i273_.gKind g272_ i273_.gNum i273_.gKids))))])]⟩ _ (by kernel_rfl) (.cons (claws_markText h310) (.cons (ix_obl (c := GTerm.c) GTerm.c_len h311) (.cons (mod_obl (off := 1) (new := [.str g272_]) (c := GTerm.c) (GTerm.c_eq i273_) (GTerm.c_eq (GTerm.mk i273_.gKind g272_ i273_.gNum i273_.gKids)) (at'_spec h311).2 rfl) (.cons (st_obl (sz := 4) (off := 1) (s := 1) (c := GTerm.c) (GTerm.c_eq i273_) (at'_spec h311).2 rfl (Nat.le_of_ble_eq_true rfl)) .nil)))) ?_
            refine Wc.seq ?_
            refine Wc.region [] [] [0, 1, 5] [] [0] ⟨[(0, (.v (.slx), [(0, .al (.a 0 0) [])])), (1, (.v (.int .i64 (wr.i64 ((wr.i64 (b266_ + 1)) + 1))), [])), (5, (.v (.int .i64 b267_), []))], [], [(0, [(0, .ex 1000000007 true (List.map GTerm.c ((r268_.set ((b267_).toNat) (GTerm.mk b266_ i271_.gName i271_.gNum i271_.gKids)).set ((b267_).toNat) (GTerm.mk i273_.gKind g272_ i273_.gNum i273_.gKids))))])]⟩ _ (by kernel_rfl) .nil ?_
            refine Wc.seq ?_
            obtain ⟨i274_, h312, h307⟩ := obind h307
            refine Wc.region [{}, {}, {}, {}, {}, { c := some (List.map GTerm.c (((r268_.set ((b267_).toNat) (GTerm.mk b266_ i271_.gName i271_.gNum i271_.gKids)).set ((b267_).toNat) (GTerm.mk i273_.gKind g272_ i273_.gNum i273_.gKids)).set ((b267_).toNat) (GTerm.mk i274_.gKind i274_.gName (wr.i64 ((wr.i64 (b266_ + 1)) + 1)) i274_.gKids))) }] [] [0, 1, 5] [] [0] ⟨[(0, (.v (.slx), [(0, .al (.a 0 0) [])])), (1, (.v (.int .i64 (wr.i64 ((wr.i64 (b266_ + 1)) + 1))), [])), (5, (.v (.int .i64 b267_), []))], [], [(0, [(0, .ex 1000000007 true (List.map GTerm.c (((r268_.set ((b267_).toNat) (GTerm.mk b266_ i271_.gName i271_.gNum i271_.gKids)).set ((b267_).toNat) (GTerm.mk i273_.gKind g272_ i273_.gNum i273_.gKids)).set ((b267_).toNat) (GTerm.mk i274_.gKind i274_.gName (wr.i64 ((wr.i64 (b266_ + 1)) + 1)) i274_.gKids))))])]⟩ _ (by kernel_rfl) (.cons (ix_obl (c := GTerm.c) GTerm.c_len h312) (.cons (mod_obl (off := 2) (new := [.int .i64 (wr.i64 ((wr.i64 (b266_ + 1)) + 1))]) (c := GTerm.c) (GTerm.c_eq i274_) (GTerm.c_eq (GTerm.mk i274_.gKind i274_.gName (wr.i64 ((wr.i64 (b266_ + 1)) + 1)) i274_.gKids)) (at'_spec h312).2 rfl) (.cons (st_obl (sz := 4) (off := 2) (s := 1) (c := GTerm.c) (GTerm.c_eq i274_) (at'_spec h312).2 rfl (Nat.le_of_ble_eq_true rfl)) .nil))) ?_
            refine Wc.seq ?_
            refine Wc.region [] [] [0, 1, 5] [] [0] ⟨[(0, (.v (.slx), [(0, .al (.a 0 0) [])])), (1, (.v (.int .i64 (wr.i64 ((wr.i64 ((wr.i64 (b266_ + 1)) + 1)) + 1))), [])), (5, (.v (.int .i64 b267_), []))], [], [(0, [(0, .ex 1000000007 true (List.map GTerm.c (((r268_.set ((b267_).toNat) (GTerm.mk b266_ i271_.gName i271_.gNum i271_.gKids)).set ((b267_).toNat) (GTerm.mk i273_.gKind g272_ i273_.gNum i273_.gKids)).set ((b267_).toNat) (GTerm.mk i274_.gKind i274_.gName (wr.i64 ((wr.i64 (b266_ + 1)) + 1)) i274_.gKids))))])]⟩ _ (by kernel_rfl) .nil ?_
            obtain ⟨i275_, h313, h307⟩ := obind h307
            obtain ⟨u276_, h314, h307⟩ := obind h307
            refine Wc.region [{}, {}, {}, {}, { v := some (.slx) }, {}, { c := some (List.map GTerm.c ((((r268_.set ((b267_).toNat) (GTerm.mk b266_ i271_.gName i271_.gNum i271_.gKids)).set ((b267_).toNat) (GTerm.mk i273_.gKind g272_ i273_.gNum i273_.gKids)).set ((b267_).toNat) (GTerm.mk i274_.gKind i274_.gName (wr.i64 ((wr.i64 (b266_ + 1)) + 1)) i274_.gKids)).set ((b267_).toNat) (GTerm.mk i275_.gKind i275_.gName i275_.gNum u276_.1))), io := [0], r := some (.v (.int .i64 u276_.2) []), outs := [(0, .v .undef [(0, .ex 1000000007 true (List.map GTerm.c u276_.1))])], ioc := [(0, .ex 1000000007 true (List.map GTerm.c i275_.gKids))] }] [] [0, 1, 5] [] [0] ⟨[(0, (.v (.slx), [(0, .al (.a 0 0) [])])), (1, (.v (.int .i64 u276_.2), [])), (5, (.v (.int .i64 b267_), []))], [], [(0, [(0, .ex 1000000007 true (List.map GTerm.c ((((r268_.set ((b267_).toNat) (GTerm.mk b266_ i271_.gName i271_.gNum i271_.gKids)).set ((b267_).toNat) (GTerm.mk i273_.gKind g272_ i273_.gNum i273_.gKids)).set ((b267_).toNat) (GTerm.mk i274_.gKind i274_.gName (wr.i64 ((wr.i64 (b266_ + 1)) + 1)) i274_.gKids)).set ((b267_).toNat) (GTerm.mk i275_.gKind i275_.gName i275_.gNum u276_.1))))])]⟩ _ (by kernel_rfl) (.cons (ix_obl (c := GTerm.c) GTerm.c_len h313) (.cons (el_oblD (sz := 4) (off := 3) (s := 1) (ag := false) (v := .slx) (c := GTerm.c) (GTerm.c_eq i275_) (at'_spec h313).2 rfl (Nat.le_of_ble_eq_true rfl) rfl) (.cons (own_obl (own := [(0, .al (.a 0 0) [(((b267_).toNat), 4, 3)])]) (p := .a 0 0) (m := (b267_).toNat) (sz := 4) (off := 3) (js := [0]) rfl) (.cons (seg_obl (sz := 4) (off := 3) (n := [.sl (List.map GTerm.c i275_.gKids)]) (c := GTerm.c) (GTerm.c_eq i275_) (at'_spec h313).2 rfl (Nat.le_of_ble_eq_true rfl) rfl) (.cons (mod_obl (off := 3) (new := [.sl (List.map GTerm.c u276_.1)]) (c := GTerm.c) (GTerm.c_eq i275_) (GTerm.c_eq (GTerm.mk i275_.gKind i275_.gName i275_.gNum u276_.1)) (at'_spec h313).2 rfl) (.cons (FnO.any (args := [.io (.slx) [(0, .ex 1000000007 true (List.map GTerm.c i275_.gKids))], .v (.int .i64 (wr.i64 ((wr.i64 ((wr.i64 (b266_ + 1)) + 1)) + 1))) []]) (ih_plaws_markTermS h314)) .nil)))))) ?_
            refine Wc.region [] [] [0, 1, 5] [] [0] ⟨[(0, (.v (.slx), [(0, .al (.a 0 0) [])])), (1, (.v (.int .i64 u276_.2), [])), (5, (.v (.int .i64 (wr.i64 (b267_ + 1))), []))], [], [(0, [(0, .ex 1000000007 true (List.map GTerm.c ((((r268_.set ((b267_).toNat) (GTerm.mk b266_ i271_.gName i271_.gNum i271_.gKids)).set ((b267_).toNat) (GTerm.mk i273_.gKind g272_ i273_.gNum i273_.gKids)).set ((b267_).toNat) (GTerm.mk i274_.gKind i274_.gName (wr.i64 ((wr.i64 (b266_ + 1)) + 1)) i274_.gKids)).set ((b267_).toNat) (GTerm.mk i275_.gKind i275_.gName i275_.gNum u276_.1))))])]⟩ _ (by kernel_rfl) .nil ?_
            exact ⟨_, Nat.lt_succ_self _, _, _, _, rfl, h307⟩
          · refine Wc.condF h308 (by kernel_rfl) ?_
            refine Wc.fix (st' := ⟨[(1, (.v (.int .i64 b266_), []))], [], [(0, [(0, .ex 1000000007 true (List.map GTerm.c r268_))])]⟩) [] [1] [] [0] (by kernel_rfl) ?_
            refine Wc.exit ?_
            obtain rfl := Option.some.inj h307
            exact ⟨_, _, rfl, rfl⟩
      · rintro st ⟨b269_, r270_, rfl, rfl⟩
        refine Wc.seq ?_
        refine Wc.region [] [] [4] [] [0] ⟨[(4, (.v (.int .i64 b269_), []))], [], [(0, [(0, .ex 1000000007 true (List.map GTerm.c r270_))])]⟩ _ (by kernel_rfl) .nil ?_
        refine Wc.ret ?_
        obtain rfl := Option.some.inj h
        exact ⟨.inl rfl, by kernel_rfl, by kernel_rfl⟩
theorem claws_markTermS {k : Nat} {r264_ : List GTerm} {b265_ : Int} {r : (List GTerm) × Int} (h : plaws_markTermS k r264_ b265_ = some r) : FnO Try.prog 76 [.io (.slx) [(0, .ex 1000000007 true (List.map GTerm.c r264_))], .v (.int .i64 b265_) []] (.v (.int .i64 r.2) []) [(0, .v .undef [(0, .ex 1000000007 true (List.map GTerm.c r.1))])] := (all_plaws_markTermS k) h

/-- laws.markTerm -/
def plaws_markTerm (k : Nat) (i277_ : GTerm) (b278_ : Int) : Option (GTerm × Int) :=
  (plaws_markTermS k i277_.gKids b278_).bind fun u279_ =>
  some (GTerm.mk i277_.gKind i277_.gName i277_.gNum u279_.1, u279_.2)
theorem claws_markTerm {k : Nat} {i277_ : GTerm} {b278_ : Int} {r : GTerm × Int} (h : plaws_markTerm k i277_ b278_ = some r) : FnO Try.prog 23 [.io (.agg [.int .i64 i277_.gKind, .str i277_.gName, .int .i64 i277_.gNum, .slx]) [(3, .ex 1000000007 true (List.map GTerm.c i277_.gKids))], .v (.int .i64 b278_) []] (.v (.int .i64 r.2) []) [(0, .v .undef [(3, .ex 1000000007 true (List.map GTerm.c r.1.gKids))])] := by
  refine FnO.of Try.func23 (rfl : Try.f23.body = some _) (Nat.le_of_ble_eq_true (by kernel_rfl)) (Nat.le_of_ble_eq_true (by kernel_rfl)) ?_
  intro w0 X0 Fin pv0 pb
  unfold plaws_markTerm at h
  refine Wc.seq ?_
  refine Wc.region [] [] [1, 2] [2] [0] ⟨[(1, (.v (.int .i64 b278_), [])), (2, (.ptr 2 0, []))], [(2, .cells [.int .i64 i277_.gKind, .str i277_.gName, .int .i64 i277_.gNum, .slx] [(3, .al (.a 0 3) [])])], [(0, [(3, .ex 1000000007 true (List.map GTerm.c i277_.gKids))])]⟩ _ (by kernel_rfl) .nil ?_
  refine Wc.seq ?_
  obtain ⟨u279_, h315, h⟩ := obind h
  refine Wc.region [{}, {}, {}, { io := [0], r := some (.v (.int .i64 u279_.2) []), outs := [(0, .v .undef [(0, .ex 1000000007 true (List.map GTerm.c u279_.1))])] }] [] [1] [] [0] ⟨[(1, (.v (.int .i64 u279_.2), []))], [], [(0, [(3, .ex 1000000007 true (List.map GTerm.c u279_.1))])]⟩ _ (by kernel_rfl) (.cons (FnO.any (args := [.io (.slx) [(0, .ex 1000000007 true (List.map GTerm.c i277_.gKids))], .v (.int .i64 b278_) []]) (claws_markTermS h315)) .nil) ?_
  refine Wc.seq ?_
  refine Wc.region [] [] [4] [] [0] ⟨[(4, (.v (.int .i64 u279_.2), []))], [], [(0, [(3, .ex 1000000007 true (List.map GTerm.c u279_.1))])]⟩ _ (by kernel_rfl) .nil ?_
  refine Wc.ret ?_
  obtain rfl := Option.some.inj h
  exact ⟨.inl rfl, by kernel_rfl, by kernel_rfl⟩

def plaws_heldTermS_L1 (k : Nat) (rlaws_heldTermS : (List GTerm) → Int → Option Int) (r280_ : List GTerm) : Nat → Int → Int → Option (Out Int Int)
  | 0, _, _ => none
  | m + 1, b282_, b283_ =>
    if (decide (b283_ < (r280_.length : Int))) = true then
      (at' r280_ b283_).bind fun i285_ =>
      if (i285_.gKind != b282_) = true then
        some (.ret (-1))
      else
        (at' r280_ b283_).bind fun i286_ =>
        (plaws_markText k (wr.i64 (b282_ + 1))).bind fun g287_ =>
        if (!(sEq i286_.gName g287_)) = true then
          some (.ret (-1))
        else
          (at' r280_ b283_).bind fun i288_ =>
          if (i288_.gNum != (wr.i64 ((wr.i64 (b282_ + 1)) + 1))) = true then
            some (.ret (-1))
          else
            (at' r280_ b283_).bind fun i289_ =>
            (rlaws_heldTermS i289_.gKids (wr.i64 ((wr.i64 ((wr.i64 (b282_ + 1)) + 1)) + 1))).bind fun b290_ =>
            if (decide (b290_ < 0)) = true then
              some (.ret (-1))
            else
              plaws_heldTermS_L1 k rlaws_heldTermS r280_ m b290_ (wr.i64 (b283_ + 1))
    else
      some (.done b282_)
mutual
/-- laws.heldTermS -/
def plaws_heldTermS : Nat → (List GTerm) → Int → Option Int
  | 0, _, _ => none
  | k + 1, r280_, b281_ =>
    (plaws_heldTermS_L1 k (plaws_heldTermS k) r280_ k b281_ 0).bind fun out1 => match out1 with
    | .ret r => some r
    | .done b284_ =>
      some b284_
end
theorem all_plaws_heldTermS : ∀ k : Nat, (∀ {r280_ : List GTerm} {b281_ : Int} {r : Int}, plaws_heldTermS k r280_ b281_ = some r → FnO Try.prog 77 [.v (.sl (List.map GTerm.c r280_)) [], .v (.int .i64 b281_) []] (.v (.int .i64 r) []) []) := by
  intro k
  induction k with
  | zero =>
    · intro r280_ b281_ r h
      exact (onone (by rw [plaws_heldTermS] at h; exact h)).elim
  | succ k ih =>
    have ih_plaws_heldTermS := @ih
    · intro r280_ b281_ r h
      rw [plaws_heldTermS] at h
      refine FnO.of Try.func77 (rfl : Try.f77.body = some _) (Nat.le_of_ble_eq_true (by kernel_rfl)) (Nat.le_of_ble_eq_true (by kernel_rfl)) ?_
      intro w0 X0 Fin pv0 pb
      refine Wc.seq ?_
      refine Wc.region [] [] [0, 1] [] [] ⟨[(0, (.v (.sl (List.map GTerm.c r280_)), [])), (1, (.v (.int .i64 b281_), []))], [], []⟩ _ (by kernel_rfl) .nil ?_
      refine Wc.seq ?_
      refine Wc.seq ?_
      refine Wc.region [] [] [0, 1, 5] [] [] ⟨[(0, (.v (.sl (List.map GTerm.c r280_)), [])), (1, (.v (.int .i64 b281_), [])), (5, (.v (.int .i64 0), []))], [], []⟩ _ (by kernel_rfl) .nil ?_
      obtain ⟨out1, h316, h⟩ := obind h
      refine Wc.lastJ (fun st => ∃ (b284_ : Int), out1 = .done b284_ ∧ st = ⟨[(1, (.v (.int .i64 b284_), []))], [], []⟩) ?_ ?_
      · refine Wc.block ?_
        refine Wc.loop (fun m st => ∃ (b282_ : Int) (b283_ : Int), st = ⟨[(0, (.v (.sl (List.map GTerm.c r280_)), [])), (1, (.v (.int .i64 b282_), [])), (5, (.v (.int .i64 b283_), []))], [], []⟩ ∧ plaws_heldTermS_L1 k (plaws_heldTermS k) r280_ m b282_ b283_ = some out1) ?_ k ⟨_, _, rfl, h316⟩
        rintro m st ⟨b282_, b283_, rfl, h316⟩
        cases m with
        | zero => exact (onone h316).elim
        | succ m =>
          refine Wc.seq ?_
          refine Wc.seq ?_
          refine Wc.region [{}, {}, { v := some (.int .i64 (r280_.length : Int)) }] [] [0, 1, 5, 9] [] [] ⟨[(0, (.v (.sl (List.map GTerm.c r280_)), [])), (1, (.v (.int .i64 b282_), [])), (5, (.v (.int .i64 b283_), [])), (9, (.v (.bool (decide (b283_ < (r280_.length : Int)))), []))], [], []⟩ _ (by kernel_rfl) (.cons (len_obl GTerm.c r280_) .nil) ?_
          rcases oif h316 with ⟨h317, h316⟩ | ⟨h317, h316⟩
          · refine Wc.condT h317 (by kernel_rfl) ?_
            refine Wc.fix (st' := ⟨[(0, (.v (.sl (List.map GTerm.c r280_)), [])), (1, (.v (.int .i64 b282_), [])), (5, (.v (.int .i64 b283_), []))], [], []⟩) [] [0, 1, 5] [] [] (by kernel_rfl) ?_
            refine Wc.skip ?_
            refine Wc.seq ?_
            refine Wc.block ?_
            refine Wc.seq ?_
            refine Wc.seq ?_
            obtain ⟨i285_, h318, h316⟩ := obind h316
            refine Wc.region [{}, {}, { v := some (.vptr [.int .i64 i285_.gKind, .str i285_.gName, .int .i64 i285_.gNum, .sl (List.map GTerm.c i285_.gKids)]) }] [] [0, 1, 5, 18] [] [] ⟨[(0, (.v (.sl (List.map GTerm.c r280_)), [])), (1, (.v (.int .i64 b282_), [])), (5, (.v (.int .i64 b283_), [])), (18, (.v (.bool (i285_.gKind != b282_)), []))], [], []⟩ _ (by kernel_rfl) (.cons (at_obl (c := GTerm.c) (GTerm.c_eq i285_) GTerm.c_len h318) (.cons (len_ok 1 [.int .i64 i285_.gKind, .str i285_.gName, .int .i64 i285_.gNum, .sl (List.map GTerm.c i285_.gKids)]) .nil)) ?_
            rcases oif h316 with ⟨h319, h316⟩ | ⟨h319, h316⟩
            · refine Wc.condT h319 (by kernel_rfl) ?_
              refine Wc.seq ?_
              refine Wc.region [] [] [4] [] [] ⟨[(4, (.v (.int .i64 (-1)), []))], [], []⟩ _ (by kernel_rfl) .nil ?_
              refine Wc.ret ?_
              obtain rfl := Option.some.inj h316
              obtain rfl := Option.some.inj h
              exact ⟨.inl rfl, by kernel_rfl, by kernel_rfl⟩
            · refine Wc.condF h319 (by kernel_rfl) ?_
              refine Wc.fix (st' := ⟨[(0, (.v (.sl (List.map GTerm.c r280_)), [])), (1, (.v (.int .i64 b282_), [])), (5, (.v (.int .i64 b283_), []))], [], []⟩) [] [0, 1, 5] [] [] (by kernel_rfl) ?_
              refine Wc.skip ?_
              refine Wc.seq ?_
              refine Wc.region [] [] [0, 1, 5] [] [] ⟨[(0, (.v (.sl (List.map GTerm.c r280_)), [])), (1, (.v (.int .i64 (wr.i64 (b282_ + 1))), [])), (5, (.v (.int .i64 b283_), []))], [], []⟩ _ (by kernel_rfl) .nil ?_
              refine Wc.seq ?_
              refine Wc.seq ?_
              obtain ⟨i286_, h320, h316⟩ := obind h316
              obtain ⟨g287_, h321, h316⟩ := obind h316
              refine Wc.draw hmix [{}, {}, { v := some (.vptr [.int .i64 i286_.gKind, .str i286_.gName, .int .i64 i286_.gNum, .sl (List.map GTerm.c i286_.gKids)]) }, {}, {}, {}, { r := some (.v (.str g287_) []) }] [] [0, 1, 5, 28] [] [] ⟨[(0, (.v (.sl (List.map GTerm.c r280_)), [])), (1, (.v (.int .i64 (wr.i64 (b282_ + 1))), [])), (5, (.v (.int .i64 b283_), [])), (28, (.v (.bool (!(sEq i286_.gName g287_))), []))], [], []⟩ _ (by kernel_rfl) (fun X => by kernel_rfl) (.cons (at_obl (c := GTerm.c) (GTerm.c_eq i286_) GTerm.c_len h320) (.cons (len_ok 1 [.str i286_.gName, .int .i64 i286_.gNum, .sl (List.map GTerm.c i286_.gKids)]) (.cons (claws_markText h321) .nil))) ?_
              rcases oif h316 with ⟨h322, h316⟩ | ⟨h322, h316⟩
              · refine Wc.condT h322 (by kernel_rfl) ?_
                refine Wc.seq ?_
                refine Wc.region [] [] [4] [] [] ⟨[(4, (.v (.int .i64 (-1)), []))], [], []⟩ _ (by kernel_rfl) .nil ?_
                refine Wc.ret ?_
                obtain rfl := Option.some.inj h316
                obtain rfl := Option.some.inj h
                exact ⟨.inl rfl, by kernel_rfl, by kernel_rfl⟩
              · refine Wc.condF h322 (by kernel_rfl) ?_
                refine Wc.fix (st' := ⟨[(0, (.v (.sl (List.map GTerm.c r280_)), [])), (1, (.v (.int .i64 (wr.i64 (b282_ + 1))), [])), (5, (.v (.int .i64 b283_), []))], [], []⟩) [] [0, 1, 5] [] [] (by kernel_rfl) ?_
                refine Wc.skip ?_
                refine Wc.seq ?_
                refine Wc.region [] [] [0, 1, 5] [] [] ⟨[(0, (.v (.sl (List.map GTerm.c r280_)), [])), (1, (.v (.int .i64 (wr.i64 ((wr.i64 (b282_ + 1)) + 1))), [])), (5, (.v (.int .i64 b283_), []))], [], []⟩ _ (by kernel_rfl) .nil ?_
                refine Wc.seq ?_
                refine Wc.seq ?_
                obtain ⟨i288_, h323, h316⟩ := obind h316
                refine Wc.region [{}, {}, { v := some (.vptr [.int .i64 i288_.gKind, .str i288_.gName, .int .i64 i288_.gNum, .sl (List.map GTerm.c i288_.gKids)]) }] [] [0, 1, 5, 37] [] [] ⟨[(0, (.v (.sl (List.map GTerm.c r280_)), [])), (1, (.v (.int .i64 (wr.i64 ((wr.i64 (b282_ + 1)) + 1))), [])), (5, (.v (.int .i64 b283_), [])), (37, (.v (.bool (i288_.gNum != (wr.i64 ((wr.i64 (b282_ + 1)) + 1)))), []))], [], []⟩ _ (by kernel_rfl) (.cons (at_obl (c := GTerm.c) (GTerm.c_eq i288_) GTerm.c_len h323) (.cons (len_ok 1 [.int .i64 i288_.gNum, .sl (List.map GTerm.c i288_.gKids)]) .nil)) ?_
                rcases oif h316 with ⟨h324, h316⟩ | ⟨h324, h316⟩
                · refine Wc.condT h324 (by kernel_rfl) ?_
                  refine Wc.seq ?_
                  refine Wc.region [] [] [4] [] [] ⟨[(4, (.v (.int .i64 (-1)), []))], [], []⟩ _ (by kernel_rfl) .nil ?_
                  refine Wc.ret ?_
                  obtain rfl := Option.some.inj h316
                  obtain rfl := Option.some.inj h
                  exact ⟨.inl rfl, by kernel_rfl, by kernel_rfl⟩
                · refine Wc.condF h324 (by kernel_rfl) ?_
                  refine Wc.fix (st' := ⟨[(0, (.v (.sl (List.map GTerm.c r280_)), [])), (1, (.v (.int .i64 (wr.i64 ((wr.i64 (b282_ + 1)) + 1))), [])), (5, (.v (.int .i64 b283_), []))], [], []⟩) [] [0, 1, 5] [] [] (by kernel_rfl) ?_
                  refine Wc.skip ?_
                  refine Wc.seq ?_
                  refine Wc.region [] [] [0, 1, 5] [] [] ⟨[(0, (.v (.sl (List.map GTerm.c r280_)), [])), (1, (.v (.int .i64 (wr.i64 ((wr.i64 ((wr.i64 (b282_ + 1)) + 1)) + 1))), [])), (5, (.v (.int .i64 b283_), []))], [], []⟩ _ (by kernel_rfl) .nil ?_
                  refine Wc.seq ?_
                  obtain ⟨i289_, h325, h316⟩ := obind h316
                  obtain ⟨b290_, h326, h316⟩ := obind h316
                  refine Wc.region [{}, {}, { v := some (.vptr [.int .i64 i289_.gKind, .str i289_.gName, .int .i64 i289_.gNum, .sl (List.map GTerm.c i289_.gKids)]) }, {}, {}, {}, { r := some (.v (.int .i64 b290_) []) }] [] [0, 1, 5] [] [] ⟨[(0, (.v (.sl (List.map GTerm.c r280_)), [])), (1, (.v (.int .i64 b290_), [])), (5, (.v (.int .i64 b283_), []))], [], []⟩ _ (by kernel_rfl) (.cons (at_obl (c := GTerm.c) (GTerm.c_eq i289_) GTerm.c_len h325) (.cons (len_ok 1 [.sl (List.map GTerm.c i289_.gKids)]) (.cons (ih_plaws_heldTermS h326) .nil))) ?_
                  refine Wc.seq ?_
                  refine Wc.region [] [] [0, 1, 5, 48] [] [] ⟨[(0, (.v (.sl (List.map GTerm.c r280_)), [])), (1, (.v (.int .i64 b290_), [])), (5, (.v (.int .i64 b283_), [])), (48, (.v (.bool (decide (b290_ < 0))), []))], [], []⟩ _ (by kernel_rfl) .nil ?_
                  rcases oif h316 with ⟨h327, h316⟩ | ⟨h327, h316⟩
                  · refine Wc.condT h327 (by kernel_rfl) ?_
                    refine Wc.seq ?_
                    refine Wc.region [] [] [4] [] [] ⟨[(4, (.v (.int .i64 (-1)), []))], [], []⟩ _ (by kernel_rfl) .nil ?_
                    refine Wc.ret ?_
                    obtain rfl := Option.some.inj h316
                    obtain rfl := Option.some.inj h
                    exact ⟨.inl rfl, by kernel_rfl, by kernel_rfl⟩
                  · refine Wc.condF h327 (by kernel_rfl) ?_
                    refine Wc.fix (st' := ⟨[(0, (.v (.sl (List.map GTerm.c r280_)), [])), (1, (.v (.int .i64 b290_), [])), (5, (.v (.int .i64 b283_), []))], [], []⟩) [] [0, 1, 5] [] [] (by kernel_rfl) ?_
                    refine Wc.skip ?_
                    refine Wc.region [] [] [0, 1, 5] [] [] ⟨[(0, (.v (.sl (List.map GTerm.c r280_)), [])), (1, (.v (.int .i64 b290_), [])), (5, (.v (.int .i64 (wr.i64 (b283_ + 1))), []))], [], []⟩ _ (by kernel_rfl) .nil ?_
                    exact ⟨_, Nat.lt_succ_self _, _, _, rfl, h316⟩
          · refine Wc.condF h317 (by kernel_rfl) ?_
            refine Wc.fix (st' := ⟨[(1, (.v (.int .i64 b282_), []))], [], []⟩) [] [1] [] [] (by kernel_rfl) ?_
            refine Wc.exit ?_
            obtain rfl := Option.some.inj h316
            exact ⟨_, rfl, rfl⟩
      · rintro st ⟨b284_, rfl, rfl⟩
        refine Wc.seq ?_
        refine Wc.region [] [] [4] [] [] ⟨[(4, (.v (.int .i64 b284_), []))], [], []⟩ _ (by kernel_rfl) .nil ?_
        refine Wc.ret ?_
        obtain rfl := Option.some.inj h
        exact ⟨.inl rfl, by kernel_rfl, by kernel_rfl⟩
theorem claws_heldTermS {k : Nat} {r280_ : List GTerm} {b281_ : Int} {r : Int} (h : plaws_heldTermS k r280_ b281_ = some r) : FnO Try.prog 77 [.v (.sl (List.map GTerm.c r280_)) [], .v (.int .i64 b281_) []] (.v (.int .i64 r) []) [] := (all_plaws_heldTermS k) h

/-- laws.heldTerm -/
def plaws_heldTerm (k : Nat) (i291_ : GTerm) (b292_ : Int) : Option Int :=
  (plaws_heldTermS k i291_.gKids b292_).bind fun b293_ =>
  if (decide (b293_ < 0)) = true then
    some (-1)
  else
    some b293_
theorem claws_heldTerm {k : Nat} {i291_ : GTerm} {b292_ : Int} {r : Int} (h : plaws_heldTerm k i291_ b292_ = some r) : FnO Try.prog 24 [.v (.agg [.int .i64 i291_.gKind, .str i291_.gName, .int .i64 i291_.gNum, .sl (List.map GTerm.c i291_.gKids)]) [], .v (.int .i64 b292_) []] (.v (.int .i64 r) []) [] := by
  refine FnO.of Try.func24 (rfl : Try.f24.body = some _) (Nat.le_of_ble_eq_true (by kernel_rfl)) (Nat.le_of_ble_eq_true (by kernel_rfl)) ?_
  intro w0 X0 Fin pv0 pb
  unfold plaws_heldTerm at h
  refine Wc.seq ?_
  refine Wc.region [] [] [1, 2] [2] [] ⟨[(1, (.v (.int .i64 b292_), [])), (2, (.ptr 2 0, []))], [(2, .cells [.int .i64 i291_.gKind, .str i291_.gName, .int .i64 i291_.gNum, .sl (List.map GTerm.c i291_.gKids)] [])], []⟩ _ (by kernel_rfl) .nil ?_
  refine Wc.seq ?_
  obtain ⟨b293_, h328, h⟩ := obind h
  refine Wc.region [{}, {}, {}, { r := some (.v (.int .i64 b293_) []) }] [] [1] [] [] ⟨[(1, (.v (.int .i64 b293_), []))], [], []⟩ _ (by kernel_rfl) (.cons (claws_heldTermS h328) .nil) ?_
  refine Wc.seq ?_
  refine Wc.seq ?_
  refine Wc.region [] [] [1, 10] [] [] ⟨[(1, (.v (.int .i64 b293_), [])), (10, (.v (.bool (decide (b293_ < 0))), []))], [], []⟩ _ (by kernel_rfl) .nil ?_
  rcases oif h with ⟨h329, h⟩ | ⟨h329, h⟩
  · refine Wc.condT h329 (by kernel_rfl) ?_
    refine Wc.seq ?_
    refine Wc.region [] [] [4] [] [] ⟨[(4, (.v (.int .i64 (-1)), []))], [], []⟩ _ (by kernel_rfl) .nil ?_
    refine Wc.ret ?_
    obtain rfl := Option.some.inj h
    exact ⟨.inl rfl, by kernel_rfl, by kernel_rfl⟩
  · refine Wc.condF h329 (by kernel_rfl) ?_
    refine Wc.fix (st' := ⟨[(1, (.v (.int .i64 b293_), []))], [], []⟩) [] [1] [] [] (by kernel_rfl) ?_
    refine Wc.skip ?_
    refine Wc.seq ?_
    refine Wc.region [] [] [4] [] [] ⟨[(4, (.v (.int .i64 b293_), []))], [], []⟩ _ (by kernel_rfl) .nil ?_
    refine Wc.ret ?_
    obtain rfl := Option.some.inj h
    exact ⟨.inl rfl, by kernel_rfl, by kernel_rfl⟩

def plaws_toIntS_d_L1 (k : Nat) (a301_ : List Int) : Nat → (List Int) → Int → Option (Out (List Int) (List Int))
  | 0, _, _ => none
  | m + 1, a302_, b303_ =>
    if (decide (b303_ < (a301_.length : Int))) = true then
      (at' a301_ b303_).bind fun b305_ =>
      (at' a302_ b303_).bind fun b306_ =>
      plaws_toIntS_d_L1 k a301_ m (a302_.set ((b303_).toNat) b305_) (wr.i64 (b303_ + 1))
    else
      some (.done a302_)
/-- laws.toIntS -/
def plaws_toIntS_d (k : Nat) (a301_ : List Int) : Option (List Int) :=
  if 0 ≤ (a301_.length : Int) ∧ (a301_.length : Int) ≤ 1073741824 then
    (plaws_toIntS_d_L1 k a301_ k (List.replicate ((a301_.length : Int)).toNat 0) 0).bind fun out1 => match out1 with
    | .ret r => some r
    | .done a304_ =>
      some a304_
  else none
theorem claws_toIntS_d {k : Nat} {a301_ : List Int} {r : (List Int)} (h : plaws_toIntS_d k a301_ = some r) : FnO Try.prog 68 [.v (.sl (List.map cI.i64 a301_)) []] (.v (.slx) [(0, .ex 3 true (List.map cI.i64 r))]) [] := by
  refine FnO.of Try.func68 (rfl : Try.f68.body = some _) (Nat.le_of_ble_eq_true (by kernel_rfl)) (Nat.le_of_ble_eq_true (by kernel_rfl)) ?_
  intro w0 X0 Fin pv0 pb
  unfold plaws_toIntS_d at h
  refine Wc.seq ?_
  refine Wc.region [] [] [0] [] [] ⟨[(0, (.v (.sl (List.map cI.i64 a301_)), []))], [], []⟩ _ (by kernel_rfl) .nil ?_
  refine Wc.seq ?_
  obtain ⟨h335, h⟩ := oguard h
  refine Wc.region [{}, { v := some (.int .i64 (a301_.length : Int)) }, { c := some (List.map cI.i64 (List.replicate ((a301_.length : Int)).toNat 0)) }, { tk := [7] }] [] [0, 3] [] [] ⟨[(0, (.v (.sl (List.map cI.i64 a301_)), [])), (3, (.v (.slx), [(0, .ex 3 true (List.map cI.i64 (List.replicate ((a301_.length : Int)).toNat 0)))]))], [], []⟩ _ (by kernel_rfl) (.cons (len_obl cI.i64 a301_) (.cons (rep_re (c := cI.i64) (z := 0) rfl ((a301_.length : Int)).toNat) (.cons (ms_obl h335) .nil))) ?_
  refine Wc.seq ?_
  refine Wc.seq ?_
  refine Wc.region [] [] [0, 3, 4] [] [] ⟨[(0, (.v (.sl (List.map cI.i64 a301_)), [])), (3, (.v (.slx), [(0, .ex 3 true (List.map cI.i64 (List.replicate ((a301_.length : Int)).toNat 0)))])), (4, (.v (.int .i64 0), []))], [], []⟩ _ (by kernel_rfl) .nil ?_
  obtain ⟨out1, h336, h⟩ := obind h
  refine Wc.lastJ (fun st => ∃ (a304_ : List Int), out1 = .done a304_ ∧ st = ⟨[(3, (.v (.slx), [(0, .ex 3 true (List.map cI.i64 a304_))]))], [], []⟩) ?_ ?_
  · refine Wc.block ?_
    refine Wc.loop (fun m st => ∃ (a302_ : List Int) (b303_ : Int), st = ⟨[(0, (.v (.sl (List.map cI.i64 a301_)), [])), (3, (.v (.slx), [(0, .ex 3 true (List.map cI.i64 a302_))])), (4, (.v (.int .i64 b303_), []))], [], []⟩ ∧ plaws_toIntS_d_L1 k a301_ m a302_ b303_ = some out1) ?_ k ⟨_, _, rfl, h336⟩
    rintro m st ⟨a302_, b303_, rfl, h336⟩
    cases m with
    | zero => exact (onone h336).elim
    | succ m =>
      refine Wc.seq ?_
      refine Wc.seq ?_
      refine Wc.region [{}, {}, { v := some (.int .i64 (a301_.length : Int)) }] [] [0, 3, 4, 11] [] [] ⟨[(0, (.v (.sl (List.map cI.i64 a301_)), [])), (3, (.v (.slx), [(0, .ex 3 true (List.map cI.i64 a302_))])), (4, (.v (.int .i64 b303_), [])), (11, (.v (.bool (decide (b303_ < (a301_.length : Int)))), []))], [], []⟩ _ (by kernel_rfl) (.cons (len_obl cI.i64 a301_) .nil) ?_
      rcases oif h336 with ⟨h337, h336⟩ | ⟨h337, h336⟩
      · refine Wc.condT h337 (by kernel_rfl) ?_
        refine Wc.fix (st' := ⟨[(0, (.v (.sl (List.map cI.i64 a301_)), [])), (3, (.v (.slx), [(0, .ex 3 true (List.map cI.i64 a302_))])), (4, (.v (.int .i64 b303_), []))], [], []⟩) [] [0, 3, 4] [] [] (by kernel_rfl) ?_
        refine Wc.skip ?_
        refine Wc.seq ?_
        refine Wc.block ?_
        obtain ⟨b305_, h338, h336⟩ := obind h336
        obtain ⟨b306_, h339, h336⟩ := obind h336
        refine Wc.region [{}, {}, {}, {}, { v := some (.vptr [.int .i64 b305_]) }, {}, {}, { c := some (List.map cI.i64 (a302_.set ((b303_).toNat) b305_)) }] [] [0, 3, 4] [] [] ⟨[(0, (.v (.sl (List.map cI.i64 a301_)), [])), (3, (.v (.slx), [(0, .ex 3 true (List.map cI.i64 (a302_.set ((b303_).toNat) b305_)))])), (4, (.v (.int .i64 b303_), []))], [], []⟩ _ (by kernel_rfl) (.cons (at_obl (c := cI.i64) rfl cI.i64_len h338) (.cons (len_ok 1 [.int .i64 b305_]) (.cons (ix_obl (c := cI.i64) cI.i64_len h339) (.cons (mod_obl (off := 0) (new := [.int .i64 b305_]) (c := cI.i64) rfl rfl (at'_spec h339).2 rfl) (.cons (st_obl (sz := 1) (off := 0) (s := 1) (c := cI.i64) rfl (at'_spec h339).2 rfl (Nat.le_of_ble_eq_true rfl)) .nil))))) ?_
        refine Wc.region [] [] [0, 3, 4] [] [] ⟨[(0, (.v (.sl (List.map cI.i64 a301_)), [])), (3, (.v (.slx), [(0, .ex 3 true (List.map cI.i64 (a302_.set ((b303_).toNat) b305_)))])), (4, (.v (.int .i64 (wr.i64 (b303_ + 1))), []))], [], []⟩ _ (by kernel_rfl) .nil ?_
        exact ⟨_, Nat.lt_succ_self _, _, _, rfl, h336⟩
      · refine Wc.condF h337 (by kernel_rfl) ?_
        refine Wc.fix (st' := ⟨[(3, (.v (.slx), [(0, .ex 3 true (List.map cI.i64 a302_))]))], [], []⟩) [] [3] [] [] (by kernel_rfl) ?_
        refine Wc.exit ?_
        obtain rfl := Option.some.inj h336
        exact ⟨_, rfl, rfl⟩
  · rintro st ⟨a304_, rfl, rfl⟩
    refine Wc.seq ?_
    refine Wc.region [{ tk := [3] }, { tk := [21] }] [] [2] [] [] ⟨[(2, (.v (.slx), [(0, .ex 3 true (List.map cI.i64 a304_))]))], [], []⟩ _ (by kernel_rfl) .nil ?_
    refine Wc.ret ?_
    obtain rfl := Option.some.inj h
    exact ⟨.inl rfl, by kernel_rfl, by kernel_rfl⟩

/-- laws.toCell -/
def plaws_toCell_d (k : Nat) (c299_ : GCell) : Option GCell :=
  (plaws_toIntS_d k c299_.gKids).bind fun n300_ =>
  some (GCell.mk c299_.gKind c299_.gName c299_.gNum c299_.gTo n300_)
theorem claws_toCell_d {k : Nat} {c299_ : GCell} {r : GCell} (h : plaws_toCell_d k c299_ = some r) : FnO Try.prog 113 [.v (.agg [.int .i64 c299_.gKind, .str c299_.gName, .int .i64 c299_.gNum, .int .i64 c299_.gTo, .sl (List.map cI.i64 c299_.gKids)]) []] (.v (.agg [.int .i64 r.gKind, .str r.gName, .int .i64 r.gNum, .int .i64 r.gTo, .slx]) [(4, .ex 3 true (List.map cI.i64 r.gKids))]) [] := by
  refine FnO.of Try.func113 (rfl : Try.f113.body = some _) (Nat.le_of_ble_eq_true (by kernel_rfl)) (Nat.le_of_ble_eq_true (by kernel_rfl)) ?_
  intro w0 X0 Fin pv0 pb
  unfold plaws_toCell_d at h
  refine Wc.seq ?_
  refine Wc.region [] [] [1, 2] [1, 2] [] ⟨[(1, (.ptr 1 0, [])), (2, (.ptr 2 0, []))], [(1, .cells [.int .i64 c299_.gKind, .str c299_.gName, .int .i64 c299_.gNum, .int .i64 c299_.gTo, .sl (List.map cI.i64 c299_.gKids)] []), (2, .cells [.int .i64 0, .str (bs []), .int .i64 0, .int .i64 0, .sl (List.map cI.i64 [])] [(4, .app 3)])], []⟩ _ (by kernel_rfl) .nil ?_
  refine Wc.seq ?_
  refine Wc.region [] [] [1, 2, 3] [1, 2, 3] [] ⟨[(1, (.ptr 1 0, [])), (2, (.ptr 2 0, [])), (3, (.ptr 3 0, []))], [(1, .cells [.int .i64 c299_.gKind, .str c299_.gName, .int .i64 c299_.gNum, .int .i64 c299_.gTo, .sl (List.map cI.i64 c299_.gKids)] []), (2, .cells [.int .i64 0, .str (bs []), .int .i64 0, .int .i64 0, .sl (List.map cI.i64 [])] [(4, .app 3)]), (3, .cells [.int .i64 0, .str (bs []), .int .i64 0, .int .i64 0, .sl (List.map cI.i64 [])] [(4, .app 3)])], []⟩ _ (by kernel_rfl) .nil ?_
  refine Wc.seq ?_
  refine Wc.region [] [] [1, 2, 3] [1, 2, 3] [] ⟨[(1, (.ptr 1 0, [])), (2, (.ptr 2 0, [])), (3, (.ptr 3 0, []))], [(1, .cells [.int .i64 c299_.gKind, .str c299_.gName, .int .i64 c299_.gNum, .int .i64 c299_.gTo, .sl (List.map cI.i64 c299_.gKids)] []), (2, .cells [.int .i64 0, .str (bs []), .int .i64 0, .int .i64 0, .sl (List.map cI.i64 [])] [(4, .app 3)]), (3, .cells [.int .i64 c299_.gKind, .str (bs []), .int .i64 0, .int .i64 0, .sl (List.map cI.i64 [])] [(4, .app 3)])], []⟩ _ (by kernel_rfl) .nil ?_
  refine Wc.seq ?_
  refine Wc.region [] [] [1, 2, 3] [1, 2, 3] [] ⟨[(1, (.ptr 1 0, [])), (2, (.ptr 2 0, [])), (3, (.ptr 3 0, []))], [(1, .cells [.int .i64 c299_.gKind, .str c299_.gName, .int .i64 c299_.gNum, .int .i64 c299_.gTo, .sl (List.map cI.i64 c299_.gKids)] []), (2, .cells [.int .i64 0, .str (bs []), .int .i64 0, .int .i64 0, .sl (List.map cI.i64 [])] [(4, .app 3)]), (3, .cells [.int .i64 c299_.gKind, .str c299_.gName, .int .i64 0, .int .i64 0, .sl (List.map cI.i64 [])] [(4, .app 3)])], []⟩ _ (by kernel_rfl) .nil ?_
  refine Wc.seq ?_
  refine Wc.region [] [] [1, 2, 3] [1, 2, 3] [] ⟨[(1, (.ptr 1 0, [])), (2, (.ptr 2 0, [])), (3, (.ptr 3 0, []))], [(1, .cells [.int .i64 c299_.gKind, .str c299_.gName, .int .i64 c299_.gNum, .int .i64 c299_.gTo, .sl (List.map cI.i64 c299_.gKids)] []), (2, .cells [.int .i64 0, .str (bs []), .int .i64 0, .int .i64 0, .sl (List.map cI.i64 [])] [(4, .app 3)]), (3, .cells [.int .i64 c299_.gKind, .str c299_.gName, .int .i64 c299_.gNum, .int .i64 0, .sl (List.map cI.i64 [])] [(4, .app 3)])], []⟩ _ (by kernel_rfl) .nil ?_
  refine Wc.seq ?_
  refine Wc.region [] [] [1, 2, 3] [1, 2, 3] [] ⟨[(1, (.ptr 1 0, [])), (2, (.ptr 2 0, [])), (3, (.ptr 3 0, []))], [(1, .cells [.int .i64 c299_.gKind, .str c299_.gName, .int .i64 c299_.gNum, .int .i64 c299_.gTo, .sl (List.map cI.i64 c299_.gKids)] []), (2, .cells [.int .i64 0, .str (bs []), .int .i64 0, .int .i64 0, .sl (List.map cI.i64 [])] [(4, .app 3)]), (3, .cells [.int .i64 c299_.gKind, .str c299_.gName, .int .i64 c299_.gNum, .int .i64 c299_.gTo, .sl (List.map cI.i64 [])] [(4, .app 3)])], []⟩ _ (by kernel_rfl) .nil ?_
  refine Wc.seq ?_
  obtain ⟨n300_, h334, h⟩ := obind h
  refine Wc.region [{}, {}, { r := some (.v (.slx) [(0, .ex 3 true (List.map cI.i64 n300_))]) }, {}, { tk := [18] }] [] [2, 3] [2, 3] [] ⟨[(2, (.ptr 2 0, [])), (3, (.ptr 3 0, []))], [(2, .cells [.int .i64 0, .str (bs []), .int .i64 0, .int .i64 0, .sl (List.map cI.i64 [])] [(4, .app 3)]), (3, .cells [.int .i64 c299_.gKind, .str c299_.gName, .int .i64 c299_.gNum, .int .i64 c299_.gTo, .slx] [(4, .ex 3 true (List.map cI.i64 n300_))])], []⟩ _ (by kernel_rfl) (.cons (claws_toIntS_d h334) .nil) ?_
  refine Wc.seq ?_
  refine Wc.region [{ md := 1 }, { tk := [20] }] [] [2] [2] [] ⟨[(2, (.ptr 2 0, []))], [(2, .cells [.int .i64 c299_.gKind, .str c299_.gName, .int .i64 c299_.gNum, .int .i64 c299_.gTo, .slx] [(4, .ex 3 true (List.map cI.i64 n300_))])], []⟩ _ (by kernel_rfl) .nil ?_
  refine Wc.ret ?_
  obtain rfl := Option.some.inj h
  exact ⟨.inl rfl, by kernel_rfl, by kernel_rfl⟩

def plaws_toCellS_d_L1 (k : Nat) (d302_ : List GCell) : Nat → (List GCell) → Int → Option (Out (List GCell) (List GCell))
  | 0, _, _ => none
  | m + 1, d303_, b304_ =>
    if (decide (b304_ < (d302_.length : Int))) = true then
      (at' d302_ b304_).bind fun c306_ =>
      (plaws_toCell_d k c306_).bind fun c307_ =>
      (at' d303_ b304_).bind fun c308_ =>
      plaws_toCellS_d_L1 k d302_ m (d303_.set ((b304_).toNat) c307_) (wr.i64 (b304_ + 1))
    else
      some (.done d303_)
/-- laws.toCellS -/
def plaws_toCellS_d (k : Nat) (d302_ : List GCell) : Option (List GCell) :=
  if 0 ≤ (d302_.length : Int) ∧ (d302_.length : Int) ≤ 1073741824 then
    (plaws_toCellS_d_L1 k d302_ k (List.replicate ((d302_.length : Int)).toNat (GCell.mk 0 (bs []) 0 0 [])) 0).bind fun out1 => match out1 with
    | .ret r => some r
    | .done d305_ =>
      some d305_
  else none
theorem claws_toCellS_d {k : Nat} {d302_ : List GCell} {r : (List GCell)} (h : plaws_toCellS_d k d302_ = some r) : FnO Try.prog 67 [.v (.sl (List.map GCell.c d302_)) []] (.v (.slx) [(0, .ex 139 true (List.map GCell.c r))]) [] := by
  refine FnO.of Try.func67 (rfl : Try.f67.body = some _) (Nat.le_of_ble_eq_true (by kernel_rfl)) (Nat.le_of_ble_eq_true (by kernel_rfl)) ?_
  intro w0 X0 Fin pv0 pb
  unfold plaws_toCellS_d at h
  refine Wc.seq ?_
  refine Wc.region [] [] [0] [] [] ⟨[(0, (.v (.sl (List.map GCell.c d302_)), []))], [], []⟩ _ (by kernel_rfl) .nil ?_
  refine Wc.seq ?_
  obtain ⟨h336, h⟩ := oguard h
  refine Wc.region [{}, { v := some (.int .i64 (d302_.length : Int)) }, { c := some (List.map GCell.c (List.replicate ((d302_.length : Int)).toNat (GCell.mk 0 (bs []) 0 0 []))) }, { tk := [7] }] [] [0, 3] [] [] ⟨[(0, (.v (.sl (List.map GCell.c d302_)), [])), (3, (.v (.slx), [(0, .ex 139 true (List.map GCell.c (List.replicate ((d302_.length : Int)).toNat (GCell.mk 0 (bs []) 0 0 []))))]))], [], []⟩ _ (by kernel_rfl) (.cons (len_obl GCell.c d302_) (.cons (rep_re (c := GCell.c) (z := (GCell.mk 0 (bs []) 0 0 [])) (GCell.c_eq (GCell.mk 0 (bs []) 0 0 [])) ((d302_.length : Int)).toNat) (.cons (ms_obl h336) .nil))) ?_
  refine Wc.seq ?_
  refine Wc.seq ?_
  refine Wc.region [] [] [0, 3, 4] [] [] ⟨[(0, (.v (.sl (List.map GCell.c d302_)), [])), (3, (.v (.slx), [(0, .ex 139 true (List.map GCell.c (List.replicate ((d302_.length : Int)).toNat (GCell.mk 0 (bs []) 0 0 []))))])), (4, (.v (.int .i64 0), []))], [], []⟩ _ (by kernel_rfl) .nil ?_
  obtain ⟨out1, h337, h⟩ := obind h
  refine Wc.lastJ (fun st => ∃ (d305_ : List GCell), out1 = .done d305_ ∧ st = ⟨[(3, (.v (.slx), [(0, .ex 139 true (List.map GCell.c d305_))]))], [], []⟩) ?_ ?_
  · refine Wc.block ?_
    refine Wc.loop (fun m st => ∃ (d303_ : List GCell) (b304_ : Int), st = ⟨[(0, (.v (.sl (List.map GCell.c d302_)), [])), (3, (.v (.slx), [(0, .ex 139 true (List.map GCell.c d303_))])), (4, (.v (.int .i64 b304_), []))], [], []⟩ ∧ plaws_toCellS_d_L1 k d302_ m d303_ b304_ = some out1) ?_ k ⟨_, _, rfl, h337⟩
    rintro m st ⟨d303_, b304_, rfl, h337⟩
    cases m with
    | zero => exact (onone h337).elim
    | succ m =>
      refine Wc.seq ?_
      refine Wc.seq ?_
      refine Wc.region [{}, {}, { v := some (.int .i64 (d302_.length : Int)) }] [] [0, 3, 4, 11] [] [] ⟨[(0, (.v (.sl (List.map GCell.c d302_)), [])), (3, (.v (.slx), [(0, .ex 139 true (List.map GCell.c d303_))])), (4, (.v (.int .i64 b304_), [])), (11, (.v (.bool (decide (b304_ < (d302_.length : Int)))), []))], [], []⟩ _ (by kernel_rfl) (.cons (len_obl GCell.c d302_) .nil) ?_
      rcases oif h337 with ⟨h338, h337⟩ | ⟨h338, h337⟩
      · refine Wc.condT h338 (by kernel_rfl) ?_
        refine Wc.fix (st' := ⟨[(0, (.v (.sl (List.map GCell.c d302_)), [])), (3, (.v (.slx), [(0, .ex 139 true (List.map GCell.c d303_))])), (4, (.v (.int .i64 b304_), []))], [], []⟩) [] [0, 3, 4] [] [] (by kernel_rfl) ?_
        refine Wc.skip ?_
        refine Wc.seq ?_
        refine Wc.block ?_
        obtain ⟨c306_, h339, h337⟩ := obind h337
        obtain ⟨c307_, h340, h337⟩ := obind h337
        obtain ⟨c308_, h341, h337⟩ := obind h337
        refine Wc.region [{}, {}, {}, {}, { v := some (.vptr [.int .i64 c306_.gKind, .str c306_.gName, .int .i64 c306_.gNum, .int .i64 c306_.gTo, .sl (List.map cI.i64 c306_.gKids)]) }, {}, { r := some (.v (.agg [.int .i64 c307_.gKind, .str c307_.gName, .int .i64 c307_.gNum, .int .i64 c307_.gTo, .slx]) [(4, .ex 3 true (List.map cI.i64 c307_.gKids))]) }, {}, { c := some (List.map GCell.c (d303_.set ((b304_).toNat) c307_)), tk := [20] }] [] [0, 3, 4] [] [] ⟨[(0, (.v (.sl (List.map GCell.c d302_)), [])), (3, (.v (.slx), [(0, .ex 139 true (List.map GCell.c (d303_.set ((b304_).toNat) c307_)))])), (4, (.v (.int .i64 b304_), []))], [], []⟩ _ (by kernel_rfl) (.cons (at_obl (c := GCell.c) (GCell.c_eq c306_) GCell.c_len h339) (.cons (len_ok 5 [.int .i64 c306_.gKind, .str c306_.gName, .int .i64 c306_.gNum, .int .i64 c306_.gTo, .sl (List.map cI.i64 c306_.gKids)]) (.cons (claws_toCell_d h340) (.cons (ix_obl (c := GCell.c) GCell.c_len h341) (.cons (mod_obl (off := 0) (new := [.int .i64 c307_.gKind, .str c307_.gName, .int .i64 c307_.gNum, .int .i64 c307_.gTo, .sl (List.map cI.i64 c307_.gKids)]) (c := GCell.c) (GCell.c_eq c308_) (GCell.c_eq c307_) (at'_spec h341).2 rfl) (.cons (st_obl (sz := 5) (off := 0) (s := 5) (c := GCell.c) (GCell.c_eq c308_) (at'_spec h341).2 rfl (Nat.le_of_ble_eq_true rfl)) .nil)))))) ?_
        refine Wc.region [] [] [0, 3, 4] [] [] ⟨[(0, (.v (.sl (List.map GCell.c d302_)), [])), (3, (.v (.slx), [(0, .ex 139 true (List.map GCell.c (d303_.set ((b304_).toNat) c307_)))])), (4, (.v (.int .i64 (wr.i64 (b304_ + 1))), []))], [], []⟩ _ (by kernel_rfl) .nil ?_
        exact ⟨_, Nat.lt_succ_self _, _, _, rfl, h337⟩
      · refine Wc.condF h338 (by kernel_rfl) ?_
        refine Wc.fix (st' := ⟨[(3, (.v (.slx), [(0, .ex 139 true (List.map GCell.c d303_))]))], [], []⟩) [] [3] [] [] (by kernel_rfl) ?_
        refine Wc.exit ?_
        obtain rfl := Option.some.inj h337
        exact ⟨_, rfl, rfl⟩
  · rintro st ⟨d305_, rfl, rfl⟩
    refine Wc.seq ?_
    refine Wc.region [{ tk := [3] }, { tk := [22] }] [] [2] [] [] ⟨[(2, (.v (.slx), [(0, .ex 139 true (List.map GCell.c d305_))]))], [], []⟩ _ (by kernel_rfl) .nil ?_
    refine Wc.ret ?_
    obtain rfl := Option.some.inj h
    exact ⟨.inl rfl, by kernel_rfl, by kernel_rfl⟩

def pimpl_termAt_d_L1 (k : Nat) (rimpl_termAt_d : GHeap → Int → Int → Int → Option (Int × GTerm × Bool)) (c314_ : GCell) (e309_ : GHeap) (b311_ : Int) : Nat → Int → GTerm → Int → Option (Out (Int × GTerm × Bool) (GTerm × Int))
  | 0, _, _, _ => none
  | m + 1, b315_, i316_, b317_ =>
    if (decide (b315_ < (c314_.gKids.length : Int))) = true then
      (at' c314_.gKids b315_).bind fun b320_ =>
      (rimpl_termAt_d e309_ b320_ (wr.i64 (b311_ + 1)) b317_).bind fun q321_ =>
      if (!q321_.2.2) = true then
        some (.ret (q321_.1, GTerm.mk 0 (bs []) 0 [], false))
      else
        if i316_.gKids.length + [GTerm.mk q321_.2.1.gKind q321_.2.1.gName q321_.2.1.gNum q321_.2.1.gKids].length ≤ 1073741824 then
          pimpl_termAt_d_L1 k rimpl_termAt_d c314_ e309_ b311_ m (wr.i64 (b315_ + 1)) (GTerm.mk i316_.gKind i316_.gName i316_.gNum (i316_.gKids ++ [GTerm.mk q321_.2.1.gKind q321_.2.1.gName q321_.2.1.gNum q321_.2.1.gKids])) q321_.1
        else none
    else
      some (.done (i316_, b317_))
mutual
/-- impl.termAt -/
def pimpl_termAt_d : Nat → GHeap → Int → Int → Int → Option (Int × GTerm × Bool)
  | 0, _, _, _, _ => none
  | k + 1, e309_, b310_, b311_, b312_ =>
    (pimpl_follow k e309_ b310_).bind fun b313_ =>
    if (decide (b313_ < 0)) = true then
      some (wr.i64 (b312_ - 1), GTerm.mk 0 (bs []) 0 [], false)
    else
      if (decide (b311_ > 40)) = true then
        some (wr.i64 (b312_ - 1), GTerm.mk 0 (bs []) 0 [], false)
      else
        if (decide ((wr.i64 (b312_ - 1)) < 0)) = true then
          some (wr.i64 (b312_ - 1), GTerm.mk 0 (bs []) 0 [], false)
        else
          (at' e309_.gCells b313_).bind fun c314_ =>
          (pimpl_termAt_d_L1 k (pimpl_termAt_d k) c314_ e309_ b311_ k 0 (GTerm.mk (mget (mset (mset (mset (mset [] 1 1) 2 2) 3 3) 4 4) c314_.gKind) c314_.gName c314_.gNum []) (wr.i64 (b312_ - 1))).bind fun out1 => match out1 with
          | .ret r => some r
          | .done (i318_, b319_) =>
            some (b319_, i318_, true)
end
set_option maxHeartbeats 4000000 in
theorem all_pimpl_termAt_d : ∀ k : Nat, (∀ {e309_ : GHeap} {b310_ : Int} {b311_ : Int} {b312_ : Int} {r : Int × GTerm × Bool}, pimpl_termAt_d k e309_ b310_ b311_ b312_ = some r → FnO Try.prog 117 [.v (.agg [.sl (List.map GCell.c e309_.gCells), .sl (List.map cI.i64 e309_.gTrail)]) [], .v (.int .i64 b310_) [], .v (.int .i64 b311_) [], .p [.int .i64 b312_] []] (.v (.tup [.agg [.int .i64 r.2.1.gKind, .str r.2.1.gName, .int .i64 r.2.1.gNum, .slx], .bool r.2.2]) [(3, .ex 42 true (List.map GTerm.c r.2.1.gKids))]) [(3, .p [.int .i64 r.1] [])]) := by
  intro k
  induction k with
  | zero =>
    · intro e309_ b310_ b311_ b312_ r h
      exact (onone (by rw [pimpl_termAt_d] at h; exact h)).elim
  | succ k ih =>
    have ih_pimpl_termAt_d := @ih
    · intro e309_ b310_ b311_ b312_ r h
      rw [pimpl_termAt_d] at h
      refine FnO.of Try.func117 (rfl : Try.f117.body = some _) (Nat.le_of_ble_eq_true (by kernel_rfl)) (Nat.le_of_ble_eq_true (by kernel_rfl)) ?_
      intro w0 X0 Fin pv0 pb
      refine Wc.seq ?_
      refine Wc.region [] [] [1, 2, 3, 4, 8] [4, 8, 1000003] [] ⟨[(1, (.v (.int .i64 b310_), [])), (2, (.v (.int .i64 b311_), [])), (3, (.ptr 1000003 0, [])), (4, (.ptr 4 0, [])), (8, (.ptr 8 0, []))], [(4, .cells [.sl (List.map GCell.c e309_.gCells), .sl (List.map cI.i64 e309_.gTrail)] []), (8, .cells [.int .i64 0, .str (bs []), .int .i64 0, .sl (List.map GTerm.c [])] [(3, .app 42)]), (1000003, .cells [.int .i64 b312_] [])], []⟩ _ (by kernel_rfl) .nil ?_
      refine Wc.seq ?_
      obtain ⟨b313_, h341, h⟩ := obind h
      refine Wc.region [{}, {}, { r := some (.v (.int .i64 b313_) []) }] [] [1, 2, 3, 4, 8] [4, 8, 1000003] [] ⟨[(1, (.v (.int .i64 b313_), [])), (2, (.v (.int .i64 b311_), [])), (3, (.ptr 1000003 0, [])), (4, (.ptr 4 0, [])), (8, (.ptr 8 0, []))], [(4, .cells [.sl (List.map GCell.c e309_.gCells), .sl (List.map cI.i64 e309_.gTrail)] []), (8, .cells [.int .i64 0, .str (bs []), .int .i64 0, .sl (List.map GTerm.c [])] [(3, .app 42)]), (1000003, .cells [.int .i64 b312_] [])], []⟩ _ (by kernel_rfl) (.cons (cimpl_follow h341) .nil) ?_
      refine Wc.seq ?_
      refine Wc.region [] [] [1, 2, 3, 4, 8] [4, 8, 1000003] [] ⟨[(1, (.v (.int .i64 b313_), [])), (2, (.v (.int .i64 b311_), [])), (3, (.ptr 1000003 0, [])), (4, (.ptr 4 0, [])), (8, (.ptr 8 0, []))], [(4, .cells [.sl (List.map GCell.c e309_.gCells), .sl (List.map cI.i64 e309_.gTrail)] []), (8, .cells [.int .i64 0, .str (bs []), .int .i64 0, .sl (List.map GTerm.c [])] [(3, .app 42)]), (1000003, .cells [.int .i64 (wr.i64 (b312_ - 1))] [])], []⟩ _ (by kernel_rfl) .nil ?_
      refine Wc.seq ?_
      refine Wc.seq ?_
      rcases oif h with ⟨h342, h⟩ | ⟨h342, h⟩
      · refine Wc.region [{}, {}, { re := some (.bool true) }] [] [1, 2, 3, 4, 8, 36] [4, 8, 1000003] [] ⟨[(1, (.v (.int .i64 b313_), [])), (2, (.v (.int .i64 b311_), [])), (3, (.ptr 1000003 0, [])), (4, (.ptr 4 0, [])), (8, (.ptr 8 0, [])), (36, (.v (.bool true), []))], [(4, .cells [.sl (List.map GCell.c e309_.gCells), .sl (List.map cI.i64 e309_.gTrail)] []), (8, .cells [.int .i64 0, .str (bs []), .int .i64 0, .sl (List.map GTerm.c [])] [(3, .app 42)]), (1000003, .cells [.int .i64 (wr.i64 (b312_ - 1))] [])], []⟩ _ (by kernel_rfl) (.cons (congrArg AV.bool h342) .nil) ?_
        refine Wc.condT rfl (by kernel_rfl) ?_
        refine Wc.seq ?_
        refine Wc.region [{}, { tk := [37] }] [] [8, 9] [8, 1000003] [] ⟨[(8, (.ptr 8 0, [])), (9, (.v (.bool false), []))], [(8, .cells [.int .i64 0, .str (bs []), .int .i64 0, .sl (List.map GTerm.c [])] [(3, .app 42)]), (1000003, .cells [.int .i64 (wr.i64 (b312_ - 1))] [])], []⟩ _ (by kernel_rfl) .nil ?_
        refine Wc.fix (st' := ⟨[(8, (.ptr 8 0, [])), (9, (.v (.bool false), []))], [(8, .cells [.int .i64 0, .str (bs []), .int .i64 0, .slx] [(3, .ex 42 true (List.map GTerm.c []))]), (1000003, .cells [.int .i64 (wr.i64 (b312_ - 1))] [])], []⟩) [.ow (.b 8 3) true] [8, 9] [8, 1000003] [] (by kernel_rfl) ?_
        refine Wc.ret ?_
        obtain rfl := Option.some.inj h
        exact ⟨.inl rfl, by kernel_rfl, by kernel_rfl⟩
      · rcases oif h with ⟨h343, h⟩ | ⟨h343, h⟩
        · refine Wc.region [{}, {}, { re := some (.bool false) }, {}, {}, {}, { re := some (.bool true) }] [] [1, 2, 3, 4, 8, 36] [4, 8, 1000003] [] ⟨[(1, (.v (.int .i64 b313_), [])), (2, (.v (.int .i64 b311_), [])), (3, (.ptr 1000003 0, [])), (4, (.ptr 4 0, [])), (8, (.ptr 8 0, [])), (36, (.v (.bool true), []))], [(4, .cells [.sl (List.map GCell.c e309_.gCells), .sl (List.map cI.i64 e309_.gTrail)] []), (8, .cells [.int .i64 0, .str (bs []), .int .i64 0, .sl (List.map GTerm.c [])] [(3, .app 42)]), (1000003, .cells [.int .i64 (wr.i64 (b312_ - 1))] [])], []⟩ _ (by kernel_rfl) (.cons (congrArg AV.bool h342) (.cons (congrArg AV.bool h343) .nil)) ?_
          refine Wc.condT rfl (by kernel_rfl) ?_
          refine Wc.seq ?_
          refine Wc.region [{}, { tk := [37] }] [] [8, 9] [8, 1000003] [] ⟨[(8, (.ptr 8 0, [])), (9, (.v (.bool false), []))], [(8, .cells [.int .i64 0, .str (bs []), .int .i64 0, .sl (List.map GTerm.c [])] [(3, .app 42)]), (1000003, .cells [.int .i64 (wr.i64 (b312_ - 1))] [])], []⟩ _ (by kernel_rfl) .nil ?_
          refine Wc.fix (st' := ⟨[(8, (.ptr 8 0, [])), (9, (.v (.bool false), []))], [(8, .cells [.int .i64 0, .str (bs []), .int .i64 0, .slx] [(3, .ex 42 true (List.map GTerm.c []))]), (1000003, .cells [.int .i64 (wr.i64 (b312_ - 1))] [])], []⟩) [.ow (.b 8 3) true] [8, 9] [8, 1000003] [] (by kernel_rfl) ?_
          refine Wc.ret ?_
          obtain rfl := Option.some.inj h
          exact ⟨.inl rfl, by kernel_rfl, by kernel_rfl⟩
        · refine Wc.region [{}, {}, { re := some (.bool false) }, {}, {}, {}, { re := some (.bool false) }] [] [1, 2, 3, 4, 8, 36] [4, 8, 1000003] [] ⟨[(1, (.v (.int .i64 b313_), [])), (2, (.v (.int .i64 b311_), [])), (3, (.ptr 1000003 0, [])), (4, (.ptr 4 0, [])), (8, (.ptr 8 0, [])), (36, (.v (.bool (decide ((wr.i64 (b312_ - 1)) < 0))), []))], [(4, .cells [.sl (List.map GCell.c e309_.gCells), .sl (List.map cI.i64 e309_.gTrail)] []), (8, .cells [.int .i64 0, .str (bs []), .int .i64 0, .sl (List.map GTerm.c [])] [(3, .app 42)]), (1000003, .cells [.int .i64 (wr.i64 (b312_ - 1))] [])], []⟩ _ (by kernel_rfl) (.cons (congrArg AV.bool h342) (.cons (congrArg AV.bool h343) .nil)) ?_
          rcases oif h with ⟨h344, h⟩ | ⟨h344, h⟩
          · refine Wc.condT h344 (by kernel_rfl) ?_
            refine Wc.seq ?_
            refine Wc.region [{}, { tk := [37] }] [] [8, 9] [8, 1000003] [] ⟨[(8, (.ptr 8 0, [])), (9, (.v (.bool false), []))], [(8, .cells [.int .i64 0, .str (bs []), .int .i64 0, .sl (List.map GTerm.c [])] [(3, .app 42)]), (1000003, .cells [.int .i64 (wr.i64 (b312_ - 1))] [])], []⟩ _ (by kernel_rfl) .nil ?_
            refine Wc.fix (st' := ⟨[(8, (.ptr 8 0, [])), (9, (.v (.bool false), []))], [(8, .cells [.int .i64 0, .str (bs []), .int .i64 0, .slx] [(3, .ex 42 true (List.map GTerm.c []))]), (1000003, .cells [.int .i64 (wr.i64 (b312_ - 1))] [])], []⟩) [.ow (.b 8 3) true] [8, 9] [8, 1000003] [] (by kernel_rfl) ?_
            refine Wc.ret ?_
            obtain rfl := Option.some.inj h
            exact ⟨.inl rfl, by kernel_rfl, by kernel_rfl⟩
          · refine Wc.condF h344 (by kernel_rfl) ?_
            refine Wc.fix (st' := ⟨[(1, (.v (.int .i64 b313_), [])), (2, (.v (.int .i64 b311_), [])), (3, (.ptr 1000003 0, [])), (4, (.ptr 4 0, [])), (8, (.ptr 8 0, []))], [(4, .cells [.sl (List.map GCell.c e309_.gCells), .sl (List.map cI.i64 e309_.gTrail)] []), (8, .cells [.int .i64 0, .str (bs []), .int .i64 0, .sl (List.map GTerm.c [])] [(3, .app 42)]), (1000003, .cells [.int .i64 (wr.i64 (b312_ - 1))] [])], []⟩) [] [1, 2, 3, 4, 8] [4, 8, 1000003] [] (by kernel_rfl) ?_
            refine Wc.skip ?_
            refine Wc.seq ?_
            obtain ⟨c314_, h345, h⟩ := obind h
            refine Wc.region [{}, {}, {}, { v := some (.vptr [.int .i64 c314_.gKind, .str c314_.gName, .int .i64 c314_.gNum, .int .i64 c314_.gTo, .sl (List.map cI.i64 c314_.gKids)]) }] [] [2, 3, 4, 8, 10] [4, 8, 10, 1000003] [] ⟨[(2, (.v (.int .i64 b311_), [])), (3, (.ptr 1000003 0, [])), (4, (.ptr 4 0, [])), (8, (.ptr 8 0, [])), (10, (.ptr 10 0, []))], [(4, .cells [.sl (List.map GCell.c e309_.gCells), .sl (List.map cI.i64 e309_.gTrail)] []), (8, .cells [.int .i64 0, .str (bs []), .int .i64 0, .sl (List.map GTerm.c [])] [(3, .app 42)]), (10, .cells [.int .i64 c314_.gKind, .str c314_.gName, .int .i64 c314_.gNum, .int .i64 c314_.gTo, .sl (List.map cI.i64 c314_.gKids)] []), (1000003, .cells [.int .i64 (wr.i64 (b312_ - 1))] [])], []⟩ _ (by kernel_rfl) (.cons (at_obl (c := GCell.c) (GCell.c_eq c314_) GCell.c_len h345) (.cons (len_ok 5 [.int .i64 c314_.gKind, .str c314_.gName, .int .i64 c314_.gNum, .int .i64 c314_.gTo, .sl (List.map cI.i64 c314_.gKids)]) .nil)) ?_
            refine Wc.seq ?_
            refine Wc.region [{}, { c := some [mgk (mset [] 1 1), mgv (mset [] 1 1)] }, { c := some [mgk (mset (mset [] 1 1) 2 2), mgv (mset (mset [] 1 1) 2 2)] }, { c := some [mgk (mset (mset (mset [] 1 1) 2 2) 3 3), mgv (mset (mset (mset [] 1 1) 2 2) 3 3)] }, { c := some [mgk (mset (mset (mset (mset [] 1 1) 2 2) 3 3) 4 4), mgv (mset (mset (mset (mset [] 1 1) 2 2) 3 3) 4 4)] }] [] [2, 3, 4, 8, 10, 11] [4, 8, 10, 43, 1000003] [] ⟨[(2, (.v (.int .i64 b311_), [])), (3, (.ptr 1000003 0, [])), (4, (.ptr 4 0, [])), (8, (.ptr 8 0, [])), (10, (.ptr 10 0, [])), (11, (.mp 43, []))], [(4, .cells [.sl (List.map GCell.c e309_.gCells), .sl (List.map cI.i64 e309_.gTrail)] []), (8, .cells [.int .i64 0, .str (bs []), .int .i64 0, .sl (List.map GTerm.c [])] [(3, .app 42)]), (10, .cells [.int .i64 c314_.gKind, .str c314_.gName, .int .i64 c314_.gNum, .int .i64 c314_.gTo, .sl (List.map cI.i64 c314_.gKids)] []), (43, .map (mgk (mset (mset (mset (mset [] 1 1) 2 2) 3 3) 4 4)) (mgv (mset (mset (mset (mset [] 1 1) 2 2) 3 3) 4 4))), (1000003, .cells [.int .i64 (wr.i64 (b312_ - 1))] [])], []⟩ _ (by kernel_rfl) (.cons (mapset_obl [] 1 1) (.cons (mapset_obl (mset [] 1 1) 2 2) (.cons (mapset_obl (mset (mset [] 1 1) 2 2) 3 3) (.cons (mapset_obl (mset (mset (mset [] 1 1) 2 2) 3 3) 4 4) .nil)))) ?_
            refine Wc.seq ?_
            refine Wc.region [{}, {}, {}, { v := some (.int .i64 (mget (mset (mset (mset (mset [] 1 1) 2 2) 3 3) 4 4) c314_.gKind)) }, {}, {}, {}, {}, {}, {}, { tk := [53] }] [] [2, 3, 4, 8, 10, 12] [4, 8, 10, 12, 1000003] [] ⟨[(2, (.v (.int .i64 b311_), [])), (3, (.ptr 1000003 0, [])), (4, (.ptr 4 0, [])), (8, (.ptr 8 0, [])), (10, (.ptr 10 0, [])), (12, (.ptr 12 0, []))], [(4, .cells [.sl (List.map GCell.c e309_.gCells), .sl (List.map cI.i64 e309_.gTrail)] []), (8, .cells [.int .i64 0, .str (bs []), .int .i64 0, .sl (List.map GTerm.c [])] [(3, .app 42)]), (10, .cells [.int .i64 c314_.gKind, .str c314_.gName, .int .i64 c314_.gNum, .int .i64 c314_.gTo, .sl (List.map cI.i64 c314_.gKids)] []), (12, .cells [.int .i64 (mget (mset (mset (mset (mset [] 1 1) 2 2) 3 3) 4 4) c314_.gKind), .str c314_.gName, .int .i64 c314_.gNum, .sl (List.map GTerm.c [])] [(3, .app 42)]), (1000003, .cells [.int .i64 (wr.i64 (b312_ - 1))] [])], []⟩ _ (by kernel_rfl) (.cons (mapget_obl (mset (mset (mset (mset [] 1 1) 2 2) 3 3) 4 4) c314_.gKind) .nil) ?_
            refine Wc.seq ?_
            refine Wc.seq ?_
            refine Wc.region [{}, {}, { v := some (.int .i64 (c314_.gKids.length : Int)) }] [] [2, 3, 4, 8, 12, 55, 56, 57] [4, 8, 12, 1000003] [] ⟨[(2, (.v (.int .i64 b311_), [])), (3, (.ptr 1000003 0, [])), (4, (.ptr 4 0, [])), (8, (.ptr 8 0, [])), (12, (.ptr 12 0, [])), (55, (.v (.sl (List.map cI.i64 c314_.gKids)), [])), (56, (.v (.int .i64 (c314_.gKids.length : Int)), [])), (57, (.v (.int .i64 0), []))], [(4, .cells [.sl (List.map GCell.c e309_.gCells), .sl (List.map cI.i64 e309_.gTrail)] []), (8, .cells [.int .i64 0, .str (bs []), .int .i64 0, .sl (List.map GTerm.c [])] [(3, .app 42)]), (12, .cells [.int .i64 (mget (mset (mset (mset (mset [] 1 1) 2 2) 3 3) 4 4) c314_.gKind), .str c314_.gName, .int .i64 c314_.gNum, .sl (List.map GTerm.c [])] [(3, .app 42)]), (1000003, .cells [.int .i64 (wr.i64 (b312_ - 1))] [])], []⟩ _ (by kernel_rfl) (.cons (len_obl cI.i64 c314_.gKids) .nil) ?_
            obtain ⟨out1, h346, h⟩ := obind h
            refine Wc.lastJ (fun st => ∃ (i318_ : GTerm) (b319_ : Int), out1 = .done (i318_, b319_) ∧ st = ⟨[(8, (.ptr 8 0, [])), (12, (.ptr 12 0, []))], [(8, .cells [.int .i64 0, .str (bs []), .int .i64 0, .slx] [(3, .ex 42 true (List.map GTerm.c []))]), (12, .cells [.int .i64 i318_.gKind, .str i318_.gName, .int .i64 i318_.gNum, .slx] [(3, .ex 42 true (List.map GTerm.c i318_.gKids))]), (1000003, .cells [.int .i64 b319_] [])], []⟩) ?_ ?_
            · refine Wc.block ?_
              refine Wc.fix (st' := ⟨[(2, (.v (.int .i64 b311_), [])), (3, (.ptr 1000003 0, [])), (4, (.ptr 4 0, [])), (8, (.ptr 8 0, [])), (12, (.ptr 12 0, [])), (55, (.v (.sl (List.map cI.i64 c314_.gKids)), [])), (56, (.v (.int .i64 (c314_.gKids.length : Int)), [])), (57, (.v (.int .i64 0), []))], [(4, .cells [.sl (List.map GCell.c e309_.gCells), .sl (List.map cI.i64 e309_.gTrail)] []), (8, .cells [.int .i64 0, .str (bs []), .int .i64 0, .slx] [(3, .ex 42 true (List.map GTerm.c []))]), (12, .cells [.int .i64 (mget (mset (mset (mset (mset [] 1 1) 2 2) 3 3) 4 4) c314_.gKind), .str c314_.gName, .int .i64 c314_.gNum, .slx] [(3, .ex 42 true (List.map GTerm.c []))]), (1000003, .cells [.int .i64 (wr.i64 (b312_ - 1))] [])], []⟩) [.ow (.b 8 3) true, .ow (.b 12 3) true] [2, 3, 4, 8, 12, 55, 56, 57] [4, 8, 12, 1000003] [] (by kernel_rfl) ?_
              refine Wc.loop (fun m st => ∃ (b315_ : Int) (i316_ : GTerm) (b317_ : Int), st = ⟨[(2, (.v (.int .i64 b311_), [])), (3, (.ptr 1000003 0, [])), (4, (.ptr 4 0, [])), (8, (.ptr 8 0, [])), (12, (.ptr 12 0, [])), (55, (.v (.sl (List.map cI.i64 c314_.gKids)), [])), (56, (.v (.int .i64 (c314_.gKids.length : Int)), [])), (57, (.v (.int .i64 b315_), []))], [(4, .cells [.sl (List.map GCell.c e309_.gCells), .sl (List.map cI.i64 e309_.gTrail)] []), (8, .cells [.int .i64 0, .str (bs []), .int .i64 0, .slx] [(3, .ex 42 true (List.map GTerm.c []))]), (12, .cells [.int .i64 i316_.gKind, .str i316_.gName, .int .i64 i316_.gNum, .slx] [(3, .ex 42 true (List.map GTerm.c i316_.gKids))]), (1000003, .cells [.int .i64 b317_] [])], []⟩ ∧ pimpl_termAt_d_L1 k (pimpl_termAt_d k) c314_ e309_ b311_ m b315_ i316_ b317_ = some out1) ?_ k ⟨_, _, _, rfl, h346⟩
              rintro m st ⟨b315_, i316_, b317_, rfl, h346⟩
              cases m with
              | zero => exact (onone h346).elim
              | succ m =>
                refine Wc.seq ?_
                refine Wc.region [] [] [2, 3, 4, 8, 12, 55, 56, 57, 58] [4, 8, 12, 1000003] [] ⟨[(2, (.v (.int .i64 b311_), [])), (3, (.ptr 1000003 0, [])), (4, (.ptr 4 0, [])), (8, (.ptr 8 0, [])), (12, (.ptr 12 0, [])), (55, (.v (.sl (List.map cI.i64 c314_.gKids)), [])), (56, (.v (.int .i64 (c314_.gKids.length : Int)), [])), (57, (.v (.int .i64 b315_), [])), (58, (.v (.bool (decide (b315_ < (c314_.gKids.length : Int)))), []))], [(4, .cells [.sl (List.map GCell.c e309_.gCells), .sl (List.map cI.i64 e309_.gTrail)] []), (8, .cells [.int .i64 0, .str (bs []), .int .i64 0, .slx] [(3, .ex 42 true (List.map GTerm.c []))]), (12, .cells [.int .i64 i316_.gKind, .str i316_.gName, .int .i64 i316_.gNum, .slx] [(3, .ex 42 true (List.map GTerm.c i316_.gKids))]), (1000003, .cells [.int .i64 b317_] [])], []⟩ _ (by kernel_rfl) .nil ?_
                refine Wc.seq ?_
                rcases oif h346 with ⟨h347, h346⟩ | ⟨h347, h346⟩
                · refine Wc.condT h347 (by kernel_rfl) ?_
                  refine Wc.fix (st' := ⟨[(2, (.v (.int .i64 b311_), [])), (3, (.ptr 1000003 0, [])), (4, (.ptr 4 0, [])), (8, (.ptr 8 0, [])), (12, (.ptr 12 0, [])), (55, (.v (.sl (List.map cI.i64 c314_.gKids)), [])), (56, (.v (.int .i64 (c314_.gKids.length : Int)), [])), (57, (.v (.int .i64 b315_), []))], [(4, .cells [.sl (List.map GCell.c e309_.gCells), .sl (List.map cI.i64 e309_.gTrail)] []), (8, .cells [.int .i64 0, .str (bs []), .int .i64 0, .slx] [(3, .ex 42 true (List.map GTerm.c []))]), (12, .cells [.int .i64 i316_.gKind, .str i316_.gName, .int .i64 i316_.gNum, .slx] [(3, .ex 42 true (List.map GTerm.c i316_.gKids))]), (1000003, .cells [.int .i64 b317_] [])], []⟩) [] [2, 3, 4, 8, 12, 55, 56, 57] [4, 8, 12, 1000003] [] (by kernel_rfl) ?_
                  refine Wc.skip ?_
                  refine Wc.seq ?_
                  refine Wc.block ?_
                  refine Wc.seq ?_
                  obtain ⟨b320_, h348, h346⟩ := obind h346
                  refine Wc.region [{ v := some (.vptr [.int .i64 b320_]) }] [] [2, 3, 4, 8, 12, 14, 55, 56, 57] [4, 8, 12, 1000003] [] ⟨[(2, (.v (.int .i64 b311_), [])), (3, (.ptr 1000003 0, [])), (4, (.ptr 4 0, [])), (8, (.ptr 8 0, [])), (12, (.ptr 12 0, [])), (14, (.v (.int .i64 b320_), [])), (55, (.v (.sl (List.map cI.i64 c314_.gKids)), [])), (56, (.v (.int .i64 (c314_.gKids.length : Int)), [])), (57, (.v (.int .i64 b315_), []))], [(4, .cells [.sl (List.map GCell.c e309_.gCells), .sl (List.map cI.i64 e309_.gTrail)] []), (8, .cells [.int .i64 0, .str (bs []), .int .i64 0, .slx] [(3, .ex 42 true (List.map GTerm.c []))]), (12, .cells [.int .i64 i316_.gKind, .str i316_.gName, .int .i64 i316_.gNum, .slx] [(3, .ex 42 true (List.map GTerm.c i316_.gKids))]), (1000003, .cells [.int .i64 b317_] [])], []⟩ _ (by kernel_rfl) (.cons (at_obl (c := cI.i64) rfl cI.i64_len h348) (.cons (len_ok 1 [.int .i64 b320_]) .nil)) ?_
                  refine Wc.seq ?_
                  obtain ⟨q321_, h349, h346⟩ := obind h346
                  refine Wc.region [{}, {}, {}, {}, {}, { r := some (.v (.tup [.agg [.int .i64 q321_.2.1.gKind, .str q321_.2.1.gName, .int .i64 q321_.2.1.gNum, .slx], .bool q321_.2.2]) [(3, .ex 42 true (List.map GTerm.c q321_.2.1.gKids))]), outs := [(3, .p [.int .i64 q321_.1] [])] }, { tk := [67] }, { tk := [61] }, {}, {}, { tk := [68] }] [] [2, 3, 4, 8, 12, 15, 16, 55, 56, 57] [4, 8, 12, 15, 1000003] [] ⟨[(2, (.v (.int .i64 b311_), [])), (3, (.ptr 1000003 0, [])), (4, (.ptr 4 0, [])), (8, (.ptr 8 0, [])), (12, (.ptr 12 0, [])), (15, (.ptr 15 0, [])), (16, (.v (.bool q321_.2.2), [])), (55, (.v (.sl (List.map cI.i64 c314_.gKids)), [])), (56, (.v (.int .i64 (c314_.gKids.length : Int)), [])), (57, (.v (.int .i64 b315_), []))], [(4, .cells [.sl (List.map GCell.c e309_.gCells), .sl (List.map cI.i64 e309_.gTrail)] []), (8, .cells [.int .i64 0, .str (bs []), .int .i64 0, .slx] [(3, .ex 42 true (List.map GTerm.c []))]), (12, .cells [.int .i64 i316_.gKind, .str i316_.gName, .int .i64 i316_.gNum, .slx] [(3, .ex 42 true (List.map GTerm.c i316_.gKids))]), (15, .cells [.int .i64 q321_.2.1.gKind, .str q321_.2.1.gName, .int .i64 q321_.2.1.gNum, .slx] [(3, .ex 42 true (List.map GTerm.c q321_.2.1.gKids))]), (1000003, .cells [.int .i64 q321_.1] [])], []⟩ _ (by kernel_rfl) (.cons (ih_pimpl_termAt_d h349) .nil) ?_
                  refine Wc.seq ?_
                  refine Wc.seq ?_
                  refine Wc.region [] [] [2, 3, 4, 8, 12, 15, 55, 56, 57, 71] [4, 8, 12, 15, 1000003] [] ⟨[(2, (.v (.int .i64 b311_), [])), (3, (.ptr 1000003 0, [])), (4, (.ptr 4 0, [])), (8, (.ptr 8 0, [])), (12, (.ptr 12 0, [])), (15, (.ptr 15 0, [])), (55, (.v (.sl (List.map cI.i64 c314_.gKids)), [])), (56, (.v (.int .i64 (c314_.gKids.length : Int)), [])), (57, (.v (.int .i64 b315_), [])), (71, (.v (.bool (!q321_.2.2)), []))], [(4, .cells [.sl (List.map GCell.c e309_.gCells), .sl (List.map cI.i64 e309_.gTrail)] []), (8, .cells [.int .i64 0, .str (bs []), .int .i64 0, .slx] [(3, .ex 42 true (List.map GTerm.c []))]), (12, .cells [.int .i64 i316_.gKind, .str i316_.gName, .int .i64 i316_.gNum, .slx] [(3, .ex 42 true (List.map GTerm.c i316_.gKids))]), (15, .cells [.int .i64 q321_.2.1.gKind, .str q321_.2.1.gName, .int .i64 q321_.2.1.gNum, .slx] [(3, .ex 42 true (List.map GTerm.c q321_.2.1.gKids))]), (1000003, .cells [.int .i64 q321_.1] [])], []⟩ _ (by kernel_rfl) .nil ?_
                  rcases oif h346 with ⟨h350, h346⟩ | ⟨h350, h346⟩
                  · refine Wc.condT h350 (by kernel_rfl) ?_
                    refine Wc.seq ?_
                    refine Wc.region [{}, { tk := [72] }] [] [8, 9] [8, 1000003] [] ⟨[(8, (.ptr 8 0, [])), (9, (.v (.bool false), []))], [(8, .cells [.int .i64 0, .str (bs []), .int .i64 0, .sl (List.map GTerm.c [])] [(3, .app 42)]), (1000003, .cells [.int .i64 q321_.1] [])], []⟩ _ (by kernel_rfl) .nil ?_
                    refine Wc.fix (st' := ⟨[(8, (.ptr 8 0, [])), (9, (.v (.bool false), []))], [(8, .cells [.int .i64 0, .str (bs []), .int .i64 0, .slx] [(3, .ex 42 true (List.map GTerm.c []))]), (1000003, .cells [.int .i64 q321_.1] [])], []⟩) [.ow (.b 8 3) true] [8, 9] [8, 1000003] [] (by kernel_rfl) ?_
                    refine Wc.ret ?_
                    obtain rfl := Option.some.inj h346
                    obtain rfl := Option.some.inj h
                    exact ⟨.inl rfl, by kernel_rfl, by kernel_rfl⟩
                  · refine Wc.condF h350 (by kernel_rfl) ?_
                    refine Wc.fix (st' := ⟨[(2, (.v (.int .i64 b311_), [])), (3, (.ptr 1000003 0, [])), (4, (.ptr 4 0, [])), (8, (.ptr 8 0, [])), (12, (.ptr 12 0, [])), (15, (.ptr 15 0, [])), (55, (.v (.sl (List.map cI.i64 c314_.gKids)), [])), (56, (.v (.int .i64 (c314_.gKids.length : Int)), [])), (57, (.v (.int .i64 b315_), []))], [(4, .cells [.sl (List.map GCell.c e309_.gCells), .sl (List.map cI.i64 e309_.gTrail)] []), (8, .cells [.int .i64 0, .str (bs []), .int .i64 0, .slx] [(3, .ex 42 true (List.map GTerm.c []))]), (12, .cells [.int .i64 i316_.gKind, .str i316_.gName, .int .i64 i316_.gNum, .slx] [(3, .ex 42 true (List.map GTerm.c i316_.gKids))]), (15, .cells [.int .i64 q321_.2.1.gKind, .str q321_.2.1.gName, .int .i64 q321_.2.1.gNum, .slx] [(3, .ex 42 true (List.map GTerm.c q321_.2.1.gKids))]), (1000003, .cells [.int .i64 q321_.1] [])], []⟩) [] [2, 3, 4, 8, 12, 15, 55, 56, 57] [4, 8, 12, 15, 1000003] [] (by kernel_rfl) ?_
                    refine Wc.skip ?_
                    obtain ⟨h351, h346⟩ := oguard h346
                    refine Wc.region [{}, { md := 1 }, { md := 1 }, { c := some (List.map GTerm.c [GTerm.mk q321_.2.1.gKind q321_.2.1.gName q321_.2.1.gNum q321_.2.1.gKids]), tk := [75], md := 2 }, { c := some (List.map GTerm.c (i316_.gKids ++ [GTerm.mk q321_.2.1.gKind q321_.2.1.gName q321_.2.1.gNum q321_.2.1.gKids])), tk := [74, 76], md := 2 }, {}, { tk := [77] }] [] [2, 3, 4, 8, 12, 55, 56, 57] [4, 8, 12, 1000003] [] ⟨[(2, (.v (.int .i64 b311_), [])), (3, (.ptr 1000003 0, [])), (4, (.ptr 4 0, [])), (8, (.ptr 8 0, [])), (12, (.ptr 12 0, [])), (55, (.v (.sl (List.map cI.i64 c314_.gKids)), [])), (56, (.v (.int .i64 (c314_.gKids.length : Int)), [])), (57, (.v (.int .i64 b315_), []))], [(4, .cells [.sl (List.map GCell.c e309_.gCells), .sl (List.map cI.i64 e309_.gTrail)] []), (8, .cells [.int .i64 0, .str (bs []), .int .i64 0, .slx] [(3, .ex 42 true (List.map GTerm.c []))]), (12, .cells [.int .i64 i316_.gKind, .str i316_.gName, .int .i64 i316_.gNum, .slx] [(3, .ex 42 true (List.map GTerm.c (i316_.gKids ++ [GTerm.mk q321_.2.1.gKind q321_.2.1.gName q321_.2.1.gNum q321_.2.1.gKids])))]), (1000003, .cells [.int .i64 q321_.1] [])], []⟩ _ (by kernel_rfl) (.cons (cl_cons (c := GTerm.c) (x := GTerm.mk q321_.2.1.gKind q321_.2.1.gName q321_.2.1.gNum q321_.2.1.gKids) (GTerm.c_eq (GTerm.mk q321_.2.1.gKind q321_.2.1.gName q321_.2.1.gNum q321_.2.1.gKids)) (cl_nil GTerm.c)) (.cons (app_re2 GTerm.c i316_.gKids [GTerm.mk q321_.2.1.gKind q321_.2.1.gName q321_.2.1.gNum q321_.2.1.gKids]) (.cons (app_obl2 (c := GTerm.c) (xs := i316_.gKids) (ys := [GTerm.mk q321_.2.1.gKind q321_.2.1.gName q321_.2.1.gNum q321_.2.1.gKids]) GTerm.c_len h351) .nil))) ?_
                    refine Wc.region [] [] [2, 3, 4, 8, 12, 55, 56, 57] [4, 8, 12, 1000003] [] ⟨[(2, (.v (.int .i64 b311_), [])), (3, (.ptr 1000003 0, [])), (4, (.ptr 4 0, [])), (8, (.ptr 8 0, [])), (12, (.ptr 12 0, [])), (55, (.v (.sl (List.map cI.i64 c314_.gKids)), [])), (56, (.v (.int .i64 (c314_.gKids.length : Int)), [])), (57, (.v (.int .i64 (wr.i64 (b315_ + 1))), []))], [(4, .cells [.sl (List.map GCell.c e309_.gCells), .sl (List.map cI.i64 e309_.gTrail)] []), (8, .cells [.int .i64 0, .str (bs []), .int .i64 0, .slx] [(3, .ex 42 true (List.map GTerm.c []))]), (12, .cells [.int .i64 i316_.gKind, .str i316_.gName, .int .i64 i316_.gNum, .slx] [(3, .ex 42 true (List.map GTerm.c (i316_.gKids ++ [GTerm.mk q321_.2.1.gKind q321_.2.1.gName q321_.2.1.gNum q321_.2.1.gKids])))]), (1000003, .cells [.int .i64 q321_.1] [])], []⟩ _ (by kernel_rfl) .nil ?_
                    exact ⟨_, Nat.lt_succ_self _, _, _, _, rfl, h346⟩
                · refine Wc.condF h347 (by kernel_rfl) ?_
                  refine Wc.fix (st' := ⟨[(8, (.ptr 8 0, [])), (12, (.ptr 12 0, []))], [(8, .cells [.int .i64 0, .str (bs []), .int .i64 0, .slx] [(3, .ex 42 true (List.map GTerm.c []))]), (12, .cells [.int .i64 i316_.gKind, .str i316_.gName, .int .i64 i316_.gNum, .slx] [(3, .ex 42 true (List.map GTerm.c i316_.gKids))]), (1000003, .cells [.int .i64 b317_] [])], []⟩) [] [8, 12] [8, 12, 1000003] [] (by kernel_rfl) ?_
                  refine Wc.exit ?_
                  obtain rfl := Option.some.inj h346
                  exact ⟨_, _, rfl, rfl⟩
            · rintro st ⟨i318_, b319_, rfl, rfl⟩
              refine Wc.seq ?_
              refine Wc.region [{ md := 1 }, { tk := [80] }] [] [8, 9] [8, 1000003] [] ⟨[(8, (.ptr 8 0, [])), (9, (.v (.bool true), []))], [(8, .cells [.int .i64 i318_.gKind, .str i318_.gName, .int .i64 i318_.gNum, .slx] [(3, .ex 42 true (List.map GTerm.c i318_.gKids))]), (1000003, .cells [.int .i64 b319_] [])], []⟩ _ (by kernel_rfl) .nil ?_
              refine Wc.ret ?_
              obtain rfl := Option.some.inj h
              exact ⟨.inl rfl, by kernel_rfl, by kernel_rfl⟩
theorem cimpl_termAt_d {k : Nat} {e309_ : GHeap} {b310_ : Int} {b311_ : Int} {b312_ : Int} {r : Int × GTerm × Bool} (h : pimpl_termAt_d k e309_ b310_ b311_ b312_ = some r) : FnO Try.prog 117 [.v (.agg [.sl (List.map GCell.c e309_.gCells), .sl (List.map cI.i64 e309_.gTrail)]) [], .v (.int .i64 b310_) [], .v (.int .i64 b311_) [], .p [.int .i64 b312_] []] (.v (.tup [.agg [.int .i64 r.2.1.gKind, .str r.2.1.gName, .int .i64 r.2.1.gNum, .slx], .bool r.2.2]) [(3, .ex 42 true (List.map GTerm.c r.2.1.gKids))]) [(3, .p [.int .i64 r.1] [])] := (all_pimpl_termAt_d k) h

/-- impl.rightAt -/
def pimpl_rightAt_d (k : Nat) (e301_ : GHeap) (b302_ : Int) : Option (GTerm × Bool) :=
  (pimpl_termAt_d k e301_ b302_ 1 400).bind fun q303_ =>
  if (!q303_.2.2) = true then
    some (GTerm.mk 0 (bs []) 0 [], false)
  else
    (pimpl_TermOk k (GTerm.mk q303_.2.1.gKind q303_.2.1.gName q303_.2.1.gNum q303_.2.1.gKids)).bind fun f304_ =>
    if (!f304_) = true then
      some (GTerm.mk 0 (bs []) 0 [], false)
    else
      some (GTerm.mk q303_.2.1.gKind q303_.2.1.gName q303_.2.1.gNum q303_.2.1.gKids, true)
theorem cimpl_rightAt_d {k : Nat} {e301_ : GHeap} {b302_ : Int} {r : GTerm × Bool} (h : pimpl_rightAt_d k e301_ b302_ = some r) : FnO Try.prog 70 [.v (.agg [.sl (List.map GCell.c e301_.gCells), .sl (List.map cI.i64 e301_.gTrail)]) [], .v (.int .i64 b302_) []] (.v (.tup [.agg [.int .i64 r.1.gKind, .str r.1.gName, .int .i64 r.1.gNum, .slx], .bool r.2]) [(3, .ex 42 true (List.map GTerm.c r.1.gKids))]) [] := by
  refine FnO.of Try.func70 (rfl : Try.f70.body = some _) (Nat.le_of_ble_eq_true (by kernel_rfl)) (Nat.le_of_ble_eq_true (by kernel_rfl)) ?_
  intro w0 X0 Fin pv0 pb
  unfold pimpl_rightAt_d at h
  refine Wc.seq ?_
  refine Wc.region [] [] [1, 2, 4] [2, 4] [] ⟨[(1, (.v (.int .i64 b302_), [])), (2, (.ptr 2 0, [])), (4, (.ptr 4 0, []))], [(2, .cells [.sl (List.map GCell.c e301_.gCells), .sl (List.map cI.i64 e301_.gTrail)] []), (4, .cells [.int .i64 0, .str (bs []), .int .i64 0, .sl (List.map GTerm.c [])] [(3, .app 42)])], []⟩ _ (by kernel_rfl) .nil ?_
  refine Wc.seq ?_
  refine Wc.region [] [] [1, 2, 4, 6] [2, 4, 6] [] ⟨[(1, (.v (.int .i64 b302_), [])), (2, (.ptr 2 0, [])), (4, (.ptr 4 0, [])), (6, (.ptr 6 0, []))], [(2, .cells [.sl (List.map GCell.c e301_.gCells), .sl (List.map cI.i64 e301_.gTrail)] []), (4, .cells [.int .i64 0, .str (bs []), .int .i64 0, .sl (List.map GTerm.c [])] [(3, .app 42)]), (6, .cells [.int .i64 400] [])], []⟩ _ (by kernel_rfl) .nil ?_
  refine Wc.seq ?_
  obtain ⟨q303_, h336, h⟩ := obind h
  refine Wc.region [{}, {}, { r := some (.v (.tup [.agg [.int .i64 q303_.2.1.gKind, .str q303_.2.1.gName, .int .i64 q303_.2.1.gNum, .slx], .bool q303_.2.2]) [(3, .ex 42 true (List.map GTerm.c q303_.2.1.gKids))]), outs := [(3, .p [.int .i64 q303_.1] [])] }, { tk := [12] }, { tk := [9] }, {}, {}, { tk := [13] }] [] [4, 7, 8] [4, 7] [] ⟨[(4, (.ptr 4 0, [])), (7, (.ptr 7 0, [])), (8, (.v (.bool q303_.2.2), []))], [(4, .cells [.int .i64 0, .str (bs []), .int .i64 0, .sl (List.map GTerm.c [])] [(3, .app 42)]), (7, .cells [.int .i64 q303_.2.1.gKind, .str q303_.2.1.gName, .int .i64 q303_.2.1.gNum, .slx] [(3, .ex 42 true (List.map GTerm.c q303_.2.1.gKids))])], []⟩ _ (by kernel_rfl) (.cons (cimpl_termAt_d h336) .nil) ?_
  refine Wc.seq ?_
  refine Wc.seq ?_
  rcases oif h with ⟨h337, h⟩ | ⟨h337, h⟩
  · refine Wc.region [{}, {}, { re := some (.bool true) }] [] [4, 7, 21] [4, 7] [] ⟨[(4, (.ptr 4 0, [])), (7, (.ptr 7 0, [])), (21, (.v (.bool true), []))], [(4, .cells [.int .i64 0, .str (bs []), .int .i64 0, .sl (List.map GTerm.c [])] [(3, .app 42)]), (7, .cells [.int .i64 q303_.2.1.gKind, .str q303_.2.1.gName, .int .i64 q303_.2.1.gNum, .slx] [(3, .ex 42 true (List.map GTerm.c q303_.2.1.gKids))])], []⟩ _ (by kernel_rfl) (.cons (congrArg AV.bool h337) .nil) ?_
    refine Wc.condT rfl (by kernel_rfl) ?_
    refine Wc.seq ?_
    refine Wc.region [{}, { tk := [22] }] [] [4, 5] [4] [] ⟨[(4, (.ptr 4 0, [])), (5, (.v (.bool false), []))], [(4, .cells [.int .i64 0, .str (bs []), .int .i64 0, .sl (List.map GTerm.c [])] [(3, .app 42)])], []⟩ _ (by kernel_rfl) .nil ?_
    refine Wc.fix (st' := ⟨[(4, (.ptr 4 0, [])), (5, (.v (.bool false), []))], [(4, .cells [.int .i64 0, .str (bs []), .int .i64 0, .slx] [(3, .ex 42 true (List.map GTerm.c []))])], []⟩) [.ow (.b 4 3) true] [4, 5] [4] [] (by kernel_rfl) ?_
    refine Wc.ret ?_
    obtain rfl := Option.some.inj h
    exact ⟨.inl rfl, by kernel_rfl, by kernel_rfl⟩
  · obtain ⟨f304_, h338, h⟩ := obind h
    refine Wc.region [{}, {}, { re := some (.bool false) }, {}, { r := some (.v (.bool f304_) []) }] [] [4, 7, 21] [4, 7] [] ⟨[(4, (.ptr 4 0, [])), (7, (.ptr 7 0, [])), (21, (.v (.bool (!f304_)), []))], [(4, .cells [.int .i64 0, .str (bs []), .int .i64 0, .sl (List.map GTerm.c [])] [(3, .app 42)]), (7, .cells [.int .i64 q303_.2.1.gKind, .str q303_.2.1.gName, .int .i64 q303_.2.1.gNum, .slx] [(3, .ex 42 true (List.map GTerm.c q303_.2.1.gKids))])], []⟩ _ (by kernel_rfl) (.cons (congrArg AV.bool h337) (.cons (cimpl_TermOk h338) .nil)) ?_
    rcases oif h with ⟨h339, h⟩ | ⟨h339, h⟩
    · refine Wc.condT h339 (by kernel_rfl) ?_
      refine Wc.seq ?_
      refine Wc.region [{}, { tk := [22] }] [] [4, 5] [4] [] ⟨[(4, (.ptr 4 0, [])), (5, (.v (.bool false), []))], [(4, .cells [.int .i64 0, .str (bs []), .int .i64 0, .sl (List.map GTerm.c [])] [(3, .app 42)])], []⟩ _ (by kernel_rfl) .nil ?_
      refine Wc.fix (st' := ⟨[(4, (.ptr 4 0, [])), (5, (.v (.bool false), []))], [(4, .cells [.int .i64 0, .str (bs []), .int .i64 0, .slx] [(3, .ex 42 true (List.map GTerm.c []))])], []⟩) [.ow (.b 4 3) true] [4, 5] [4] [] (by kernel_rfl) ?_
      refine Wc.ret ?_
      obtain rfl := Option.some.inj h
      exact ⟨.inl rfl, by kernel_rfl, by kernel_rfl⟩
    · refine Wc.condF h339 (by kernel_rfl) ?_
      refine Wc.fix (st' := ⟨[(4, (.ptr 4 0, [])), (7, (.ptr 7 0, []))], [(4, .cells [.int .i64 0, .str (bs []), .int .i64 0, .sl (List.map GTerm.c [])] [(3, .app 42)]), (7, .cells [.int .i64 q303_.2.1.gKind, .str q303_.2.1.gName, .int .i64 q303_.2.1.gNum, .slx] [(3, .ex 42 true (List.map GTerm.c q303_.2.1.gKids))])], []⟩) [] [4, 7] [4, 7] [] (by kernel_rfl) ?_
      refine Wc.skip ?_
      refine Wc.seq ?_
      refine Wc.region [{ md := 1 }, { tk := [23] }] [] [4, 5] [4] [] ⟨[(4, (.ptr 4 0, [])), (5, (.v (.bool true), []))], [(4, .cells [.int .i64 q303_.2.1.gKind, .str q303_.2.1.gName, .int .i64 q303_.2.1.gNum, .slx] [(3, .ex 42 true (List.map GTerm.c q303_.2.1.gKids))])], []⟩ _ (by kernel_rfl) .nil ?_
      refine Wc.ret ?_
      obtain rfl := Option.some.inj h
      exact ⟨.inl rfl, by kernel_rfl, by kernel_rfl⟩

/-- laws.toHeap -/
def plaws_toHeap_d (k : Nat) (e302_ : GHeap) : Option GHeap :=
  (plaws_toCellS_d k e302_.gCells).bind fun o303_ =>
  (plaws_toIntS_d k e302_.gTrail).bind fun n304_ =>
  some (GHeap.mk o303_ n304_)
theorem claws_toHeap_d {k : Nat} {e302_ : GHeap} {r : GHeap} (h : plaws_toHeap_d k e302_ = some r) : FnO Try.prog 18 [.v (.agg [.sl (List.map GCell.c e302_.gCells), .sl (List.map cI.i64 e302_.gTrail)]) []] (.v (.agg [.slx, .slx]) [(0, .ex 139 true (List.map GCell.c r.gCells)), (1, .ex 3 true (List.map cI.i64 r.gTrail))]) [] := by
  refine FnO.of Try.func18 (rfl : Try.f18.body = some _) (Nat.le_of_ble_eq_true (by kernel_rfl)) (Nat.le_of_ble_eq_true (by kernel_rfl)) ?_
  intro w0 X0 Fin pv0 pb
  unfold plaws_toHeap_d at h
  refine Wc.seq ?_
  refine Wc.region [] [] [1, 2] [1, 2] [] ⟨[(1, (.ptr 1 0, [])), (2, (.ptr 2 0, []))], [(1, .cells [.sl (List.map GCell.c e302_.gCells), .sl (List.map cI.i64 e302_.gTrail)] []), (2, .cells [.sl (List.map GCell.c []), .sl (List.map cI.i64 [])] [(0, .app 139), (1, .app 3)])], []⟩ _ (by kernel_rfl) .nil ?_
  refine Wc.seq ?_
  refine Wc.region [] [] [1, 2, 3] [1, 2, 3] [] ⟨[(1, (.ptr 1 0, [])), (2, (.ptr 2 0, [])), (3, (.ptr 3 0, []))], [(1, .cells [.sl (List.map GCell.c e302_.gCells), .sl (List.map cI.i64 e302_.gTrail)] []), (2, .cells [.sl (List.map GCell.c []), .sl (List.map cI.i64 [])] [(0, .app 139), (1, .app 3)]), (3, .cells [.sl (List.map GCell.c []), .sl (List.map cI.i64 [])] [(0, .app 139), (1, .app 3)])], []⟩ _ (by kernel_rfl) .nil ?_
  refine Wc.seq ?_
  obtain ⟨o303_, h336, h⟩ := obind h
  refine Wc.region [{}, {}, { r := some (.v (.slx) [(0, .ex 139 true (List.map GCell.c o303_))]) }, {}, { tk := [6] }] [.so 3] [1, 2, 3] [1, 2, 3] [] ⟨[(1, (.ptr 1 0, [])), (2, (.ptr 2 0, [])), (3, (.ptr 3 0, []))], [(1, .cells [.sl (List.map GCell.c e302_.gCells), .sl (List.map cI.i64 e302_.gTrail)] []), (2, .cells [.sl (List.map GCell.c []), .sl (List.map cI.i64 [])] [(0, .app 139), (1, .app 3)]), (3, .cells [.slx, .sl (List.map cI.i64 [])] [(0, .ex 139 true (List.map GCell.c o303_)), (1, .app 3)])], []⟩ _ (by kernel_rfl) (.cons (claws_toCellS_d h336) .nil) ?_
  refine Wc.seq ?_
  obtain ⟨n304_, h337, h⟩ := obind h
  refine Wc.region [{}, {}, { r := some (.v (.slx) [(0, .ex 3 true (List.map cI.i64 n304_))]) }, {}, { tk := [10] }] [] [2, 3] [2, 3] [] ⟨[(2, (.ptr 2 0, [])), (3, (.ptr 3 0, []))], [(2, .cells [.sl (List.map GCell.c []), .sl (List.map cI.i64 [])] [(0, .app 139), (1, .app 3)]), (3, .cells [.slx, .slx] [(0, .ex 139 true (List.map GCell.c o303_)), (1, .ex 3 true (List.map cI.i64 n304_))])], []⟩ _ (by kernel_rfl) (.cons (claws_toIntS_d h337) .nil) ?_
  refine Wc.seq ?_
  refine Wc.region [{ md := 1 }, { tk := [12] }] [] [2] [2] [] ⟨[(2, (.ptr 2 0, []))], [(2, .cells [.slx, .slx] [(0, .ex 139 true (List.map GCell.c o303_)), (1, .ex 3 true (List.map cI.i64 n304_))])], []⟩ _ (by kernel_rfl) .nil ?_
  refine Wc.ret ?_
  obtain rfl := Option.some.inj h
  exact ⟨.inl rfl, by kernel_rfl, by kernel_rfl⟩

/-- impl.TermAt -/
def pimpl_TermAt_d (k : Nat) (e304_ : GHeap) (b305_ : Int) : Option (GTerm × Bool) :=
  (pimpl_HeapOk k e304_).bind fun f306_ =>
  if (!f306_) = true then
    some (GTerm.mk 0 (bs []) 0 [], false)
  else
    (pimpl_rightAt_d k e304_ b305_).bind fun m307_ =>
    some (GTerm.mk m307_.1.gKind m307_.1.gName m307_.1.gNum m307_.1.gKids, m307_.2)
theorem cimpl_TermAt_d {k : Nat} {e304_ : GHeap} {b305_ : Int} {r : GTerm × Bool} (h : pimpl_TermAt_d k e304_ b305_ = some r) : FnO Try.prog 19 [.v (.agg [.sl (List.map GCell.c e304_.gCells), .sl (List.map cI.i64 e304_.gTrail)]) [], .v (.int .i64 b305_) []] (.v (.tup [.agg [.int .i64 r.1.gKind, .str r.1.gName, .int .i64 r.1.gNum, .slx], .bool r.2]) [(3, .ex 42 true (List.map GTerm.c r.1.gKids))]) [] := by
  refine FnO.of Try.func19 (rfl : Try.f19.body = some _) (Nat.le_of_ble_eq_true (by kernel_rfl)) (Nat.le_of_ble_eq_true (by kernel_rfl)) ?_
  intro w0 X0 Fin pv0 pb
  unfold pimpl_TermAt_d at h
  refine Wc.seq ?_
  refine Wc.region [] [] [1, 2, 4] [2, 4] [] ⟨[(1, (.v (.int .i64 b305_), [])), (2, (.ptr 2 0, [])), (4, (.ptr 4 0, []))], [(2, .cells [.sl (List.map GCell.c e304_.gCells), .sl (List.map cI.i64 e304_.gTrail)] []), (4, .cells [.int .i64 0, .str (bs []), .int .i64 0, .sl (List.map GTerm.c [])] [(3, .app 42)])], []⟩ _ (by kernel_rfl) .nil ?_
  refine Wc.seq ?_
  refine Wc.seq ?_
  obtain ⟨f306_, h338, h⟩ := obind h
  refine Wc.region [{}, { r := some (.v (.bool f306_) []) }] [] [1, 2, 4, 8] [2, 4] [] ⟨[(1, (.v (.int .i64 b305_), [])), (2, (.ptr 2 0, [])), (4, (.ptr 4 0, [])), (8, (.v (.bool (!f306_)), []))], [(2, .cells [.sl (List.map GCell.c e304_.gCells), .sl (List.map cI.i64 e304_.gTrail)] []), (4, .cells [.int .i64 0, .str (bs []), .int .i64 0, .sl (List.map GTerm.c [])] [(3, .app 42)])], []⟩ _ (by kernel_rfl) (.cons (cimpl_HeapOk h338) .nil) ?_
  rcases oif h with ⟨h339, h⟩ | ⟨h339, h⟩
  · refine Wc.condT h339 (by kernel_rfl) ?_
    refine Wc.seq ?_
    refine Wc.region [{}, { tk := [9] }] [] [4, 5] [4] [] ⟨[(4, (.ptr 4 0, [])), (5, (.v (.bool false), []))], [(4, .cells [.int .i64 0, .str (bs []), .int .i64 0, .sl (List.map GTerm.c [])] [(3, .app 42)])], []⟩ _ (by kernel_rfl) .nil ?_
    refine Wc.fix (st' := ⟨[(4, (.ptr 4 0, [])), (5, (.v (.bool false), []))], [(4, .cells [.int .i64 0, .str (bs []), .int .i64 0, .slx] [(3, .ex 42 true (List.map GTerm.c []))])], []⟩) [.ow (.b 4 3) true] [4, 5] [4] [] (by kernel_rfl) ?_
    refine Wc.ret ?_
    obtain rfl := Option.some.inj h
    exact ⟨.inl rfl, by kernel_rfl, by kernel_rfl⟩
  · refine Wc.condF h339 (by kernel_rfl) ?_
    refine Wc.fix (st' := ⟨[(1, (.v (.int .i64 b305_), [])), (2, (.ptr 2 0, [])), (4, (.ptr 4 0, []))], [(2, .cells [.sl (List.map GCell.c e304_.gCells), .sl (List.map cI.i64 e304_.gTrail)] []), (4, .cells [.int .i64 0, .str (bs []), .int .i64 0, .sl (List.map GTerm.c [])] [(3, .app 42)])], []⟩) [] [1, 2, 4] [2, 4] [] (by kernel_rfl) ?_
    refine Wc.skip ?_
    refine Wc.seq ?_
    obtain ⟨m307_, h340, h⟩ := obind h
    refine Wc.region [{}, {}, { r := some (.v (.tup [.agg [.int .i64 m307_.1.gKind, .str m307_.1.gName, .int .i64 m307_.1.gNum, .slx], .bool m307_.2]) [(3, .ex 42 true (List.map GTerm.c m307_.1.gKids))]) }, { tk := [12] }, {}, { tk := [13] }] [] [4, 5] [4] [] ⟨[(4, (.ptr 4 0, [])), (5, (.v (.bool m307_.2), []))], [(4, .cells [.int .i64 m307_.1.gKind, .str m307_.1.gName, .int .i64 m307_.1.gNum, .slx] [(3, .ex 42 true (List.map GTerm.c m307_.1.gKids))])], []⟩ _ (by kernel_rfl) (.cons (cimpl_rightAt_d h340) .nil) ?_
    refine Wc.ret ?_
    obtain rfl := Option.some.inj h
    exact ⟨.inl rfl, by kernel_rfl, by kernel_rfl⟩

/-- laws.FnExactTermAt -/
def plaws_FnExactTermAt (k : Nat) (e294_ : GHeap) (b295_ : Int) : Option Bool :=
  (plaws_szHeap k e294_ 1048576).bind fun b296_ =>
  if (decide (b296_ < 0)) = true then
    some true
  else
    (plaws_toHeap k e294_).bind fun e297_ =>
    (pspec_TermAt k e297_ b295_).bind fun m298_ =>
    (plaws_toHeap_d k e294_).bind fun e299_ =>
    (pimpl_TermAt_d k e299_ b295_).bind fun m300_ =>
    (plaws_eqTerm k (GTerm.mk m300_.1.gKind m300_.1.gName m300_.1.gNum m300_.1.gKids) (GTerm.mk m298_.1.gKind m298_.1.gName m298_.1.gNum m298_.1.gKids)).bind fun f301_ =>
    if (!f301_) = true then
      some false
    else
      if (!(m300_.2 == m298_.2)) = true then
        some false
      else
        (plaws_toHeap k e294_).bind fun e302_ =>
        (plaws_eqHeap k e299_ e302_).bind fun f303_ =>
        if (!f303_) = true then
          some false
        else
          (plaws_markHeap k e299_ 1).bind fun v304_ =>
          if (decide (v304_.2 < 0)) = true then
            some false
          else
            (plaws_eqTerm k (GTerm.mk m300_.1.gKind m300_.1.gName m300_.1.gNum m300_.1.gKids) (GTerm.mk m298_.1.gKind m298_.1.gName m298_.1.gNum m298_.1.gKids)).bind fun f305_ =>
            if (!f305_) = true then
              some false
            else
              if (!(m300_.2 == m298_.2)) = true then
                some false
              else
                (plaws_markTerm k (GTerm.mk m300_.1.gKind m300_.1.gName m300_.1.gNum m300_.1.gKids) 1).bind fun w306_ =>
                (plaws_heldTerm k (GTerm.mk m300_.1.gKind m300_.1.gName m300_.1.gNum w306_.1.gKids) 1).bind fun b307_ =>
                if (decide (b307_ < 0)) = true then
                  some false
                else
                  if (b307_ != w306_.2) = true then
                    some false
                  else
                    (plaws_toHeap k e294_).bind fun e308_ =>
                    (pimpl_TermAt k e308_ b295_).bind fun m309_ =>
                    (plaws_eqTerm k (GTerm.mk m309_.1.gKind m309_.1.gName m309_.1.gNum m309_.1.gKids) (GTerm.mk m298_.1.gKind m298_.1.gName m298_.1.gNum m298_.1.gKids)).bind fun f310_ =>
                    if (!f310_) = true then
                      some false
                    else
                      if (!(m309_.2 == m298_.2)) = true then
                        some false
                      else
                        (plaws_heldTerm k (GTerm.mk m300_.1.gKind m300_.1.gName m300_.1.gNum w306_.1.gKids) 1).bind fun b311_ =>
                        if (decide (b311_ < 0)) = true then
                          some false
                        else
                          if (b311_ != w306_.2) = true then
                            some false
                          else
                            some true
set_option maxHeartbeats 4000000 in
theorem claws_FnExactTermAt {k : Nat} {e294_ : GHeap} {b295_ : Int} {r : Bool} (h : plaws_FnExactTermAt k e294_ b295_ = some r) : FnO Try.prog 4 [.v (.agg [.sl (List.map GCell.c e294_.gCells), .sl (List.map cI.i64 e294_.gTrail)]) [], .v (.int .i64 b295_) []] (.v (.bool r) []) [] := by
  refine FnO.of Try.func4 (rfl : Try.f4.body = some _) (Nat.le_of_ble_eq_true (by kernel_rfl)) (Nat.le_of_ble_eq_true (by kernel_rfl)) ?_
  intro w0 X0 Fin pv0 pb
  unfold plaws_FnExactTermAt at h
  refine Wc.seq ?_
  refine Wc.region [] [] [1, 2] [2] [] ⟨[(1, (.v (.int .i64 b295_), [])), (2, (.ptr 2 0, []))], [(2, .cells [.sl (List.map GCell.c e294_.gCells), .sl (List.map cI.i64 e294_.gTrail)] [])], []⟩ _ (by kernel_rfl) .nil ?_
  refine Wc.seq ?_
  refine Wc.region [] [] [1, 2, 5] [2] [] ⟨[(1, (.v (.int .i64 b295_), [])), (2, (.ptr 2 0, [])), (5, (.v (.int .i64 1048576), []))], [(2, .cells [.sl (List.map GCell.c e294_.gCells), .sl (List.map cI.i64 e294_.gTrail)] [])], []⟩ _ (by kernel_rfl) .nil ?_
  refine Wc.seq ?_
  obtain ⟨b296_, h330, h⟩ := obind h
  refine Wc.region [{}, {}, { r := some (.v (.int .i64 b296_) []) }] [] [1, 2, 5] [2] [] ⟨[(1, (.v (.int .i64 b295_), [])), (2, (.ptr 2 0, [])), (5, (.v (.int .i64 b296_), []))], [(2, .cells [.sl (List.map GCell.c e294_.gCells), .sl (List.map cI.i64 e294_.gTrail)] [])], []⟩ _ (by kernel_rfl) (.cons (claws_szHeap h330) .nil) ?_
  refine Wc.seq ?_
  refine Wc.seq ?_
  refine Wc.region [] [] [1, 2, 20] [2] [] ⟨[(1, (.v (.int .i64 b295_), [])), (2, (.ptr 2 0, [])), (20, (.v (.bool (decide (b296_ < 0))), []))], [(2, .cells [.sl (List.map GCell.c e294_.gCells), .sl (List.map cI.i64 e294_.gTrail)] [])], []⟩ _ (by kernel_rfl) .nil ?_
  rcases oif h with ⟨h331, h⟩ | ⟨h331, h⟩
  · refine Wc.condT h331 (by kernel_rfl) ?_
    refine Wc.seq ?_
    refine Wc.region [] [] [4] [] [] ⟨[(4, (.v (.bool true), []))], [], []⟩ _ (by kernel_rfl) .nil ?_
    refine Wc.ret ?_
    obtain rfl := Option.some.inj h
    exact ⟨.inl rfl, by kernel_rfl, by kernel_rfl⟩
  · refine Wc.condF h331 (by kernel_rfl) ?_
    refine Wc.fix (st' := ⟨[(1, (.v (.int .i64 b295_), [])), (2, (.ptr 2 0, []))], [(2, .cells [.sl (List.map GCell.c e294_.gCells), .sl (List.map cI.i64 e294_.gTrail)] [])], []⟩) [] [1, 2] [2] [] (by kernel_rfl) ?_
    refine Wc.skip ?_
    refine Wc.seq ?_
    obtain ⟨e297_, h332, h⟩ := obind h
    obtain ⟨m298_, h333, h⟩ := obind h
    refine Wc.region [{}, { r := some (.v (.agg [.sl (List.map GCell.c e297_.gCells), .sl (List.map cI.i64 e297_.gTrail)]) []) }, {}, { r := some (.v (.tup [.agg [.int .i64 m298_.1.gKind, .str m298_.1.gName, .int .i64 m298_.1.gNum, .sl (List.map GTerm.c m298_.1.gKids)], .bool m298_.2]) [(3, .app 42)]) }, { tk := [25] }, { tk := [21] }, {}, {}, { tk := [26] }] [] [1, 2, 6, 7] [2, 6] [] ⟨[(1, (.v (.int .i64 b295_), [])), (2, (.ptr 2 0, [])), (6, (.ptr 6 0, [])), (7, (.v (.bool m298_.2), []))], [(2, .cells [.sl (List.map GCell.c e294_.gCells), .sl (List.map cI.i64 e294_.gTrail)] []), (6, .cells [.int .i64 m298_.1.gKind, .str m298_.1.gName, .int .i64 m298_.1.gNum, .sl (List.map GTerm.c m298_.1.gKids)] [(3, .app 42)])], []⟩ _ (by kernel_rfl) (.cons (claws_toHeap h332) (.cons (cspec_TermAt h333) .nil)) ?_
    refine Wc.seq ?_
    obtain ⟨e299_, h334, h⟩ := obind h
    refine Wc.region [{}, { r := some (.v (.agg [.slx, .slx]) [(0, .ex 139 true (List.map GCell.c e299_.gCells)), (1, .ex 3 true (List.map cI.i64 e299_.gTrail))]) }, {}, { tk := [29] }] [] [1, 2, 6, 7, 8] [2, 6, 8] [] ⟨[(1, (.v (.int .i64 b295_), [])), (2, (.ptr 2 0, [])), (6, (.ptr 6 0, [])), (7, (.v (.bool m298_.2), [])), (8, (.ptr 8 0, []))], [(2, .cells [.sl (List.map GCell.c e294_.gCells), .sl (List.map cI.i64 e294_.gTrail)] []), (6, .cells [.int .i64 m298_.1.gKind, .str m298_.1.gName, .int .i64 m298_.1.gNum, .sl (List.map GTerm.c m298_.1.gKids)] [(3, .app 42)]), (8, .cells [.slx, .slx] [(0, .ex 139 true (List.map GCell.c e299_.gCells)), (1, .ex 3 true (List.map cI.i64 e299_.gTrail))])], []⟩ _ (by kernel_rfl) (.cons (claws_toHeap_d h334) .nil) ?_
    refine Wc.seq ?_
    obtain ⟨m300_, h335, h⟩ := obind h
    refine Wc.region [{}, {}, { r := some (.v (.tup [.agg [.int .i64 m300_.1.gKind, .str m300_.1.gName, .int .i64 m300_.1.gNum, .slx], .bool m300_.2]) [(3, .ex 42 true (List.map GTerm.c m300_.1.gKids))]) }, { tk := [33] }, { tk := [30] }, {}, {}, { tk := [34] }] [] [1, 2, 6, 7, 8, 9, 10] [2, 6, 8, 9] [] ⟨[(1, (.v (.int .i64 b295_), [])), (2, (.ptr 2 0, [])), (6, (.ptr 6 0, [])), (7, (.v (.bool m298_.2), [])), (8, (.ptr 8 0, [])), (9, (.ptr 9 0, [])), (10, (.v (.bool m300_.2), []))], [(2, .cells [.sl (List.map GCell.c e294_.gCells), .sl (List.map cI.i64 e294_.gTrail)] []), (6, .cells [.int .i64 m298_.1.gKind, .str m298_.1.gName, .int .i64 m298_.1.gNum, .sl (List.map GTerm.c m298_.1.gKids)] [(3, .app 42)]), (8, .cells [.slx, .slx] [(0, .ex 139 true (List.map GCell.c e299_.gCells)), (1, .ex 3 true (List.map cI.i64 e299_.gTrail))]), (9, .cells [.int .i64 m300_.1.gKind, .str m300_.1.gName, .int .i64 m300_.1.gNum, .slx] [(3, .ex 42 true (List.map GTerm.c m300_.1.gKids))])], []⟩ _ (by kernel_rfl) (.cons (cimpl_TermAt_d h335) .nil) ?_
    refine Wc.seq ?_
    refine Wc.seq ?_
    obtain ⟨f301_, h336, h⟩ := obind h
    rcases oif h with ⟨h337, h⟩ | ⟨h337, h⟩
    · refine Wc.region [{}, {}, { r := some (.v (.bool f301_) []) }, {}, { re := some (.bool true) }] [] [1, 2, 6, 7, 8, 9, 10, 44] [2, 6, 8, 9] [] ⟨[(1, (.v (.int .i64 b295_), [])), (2, (.ptr 2 0, [])), (6, (.ptr 6 0, [])), (7, (.v (.bool m298_.2), [])), (8, (.ptr 8 0, [])), (9, (.ptr 9 0, [])), (10, (.v (.bool m300_.2), [])), (44, (.v (.bool true), []))], [(2, .cells [.sl (List.map GCell.c e294_.gCells), .sl (List.map cI.i64 e294_.gTrail)] []), (6, .cells [.int .i64 m298_.1.gKind, .str m298_.1.gName, .int .i64 m298_.1.gNum, .sl (List.map GTerm.c m298_.1.gKids)] [(3, .app 42)]), (8, .cells [.slx, .slx] [(0, .ex 139 true (List.map GCell.c e299_.gCells)), (1, .ex 3 true (List.map cI.i64 e299_.gTrail))]), (9, .cells [.int .i64 m300_.1.gKind, .str m300_.1.gName, .int .i64 m300_.1.gNum, .slx] [(3, .ex 42 true (List.map GTerm.c m300_.1.gKids))])], []⟩ _ (by kernel_rfl) (.cons (claws_eqTerm h336) (.cons (congrArg AV.bool h337) .nil)) ?_
      refine Wc.condT rfl (by kernel_rfl) ?_
      refine Wc.seq ?_
      refine Wc.region [] [] [4] [] [] ⟨[(4, (.v (.bool false), []))], [], []⟩ _ (by kernel_rfl) .nil ?_
      refine Wc.ret ?_
      obtain rfl := Option.some.inj h
      exact ⟨.inl rfl, by kernel_rfl, by kernel_rfl⟩
    · refine Wc.region [{}, {}, { r := some (.v (.bool f301_) []) }, {}, { re := some (.bool false) }] [] [1, 2, 6, 7, 8, 9, 10, 44] [2, 6, 8, 9] [] ⟨[(1, (.v (.int .i64 b295_), [])), (2, (.ptr 2 0, [])), (6, (.ptr 6 0, [])), (7, (.v (.bool m298_.2), [])), (8, (.ptr 8 0, [])), (9, (.ptr 9 0, [])), (10, (.v (.bool m300_.2), [])), (44, (.v (.bool (!(m300_.2 == m298_.2))), []))], [(2, .cells [.sl (List.map GCell.c e294_.gCells), .sl (List.map cI.i64 e294_.gTrail)] []), (6, .cells [.int .i64 m298_.1.gKind, .str m298_.1.gName, .int .i64 m298_.1.gNum, .sl (List.map GTerm.c m298_.1.gKids)] [(3, .app 42)]), (8, .cells [.slx, .slx] [(0, .ex 139 true (List.map GCell.c e299_.gCells)), (1, .ex 3 true (List.map cI.i64 e299_.gTrail))]), (9, .cells [.int .i64 m300_.1.gKind, .str m300_.1.gName, .int .i64 m300_.1.gNum, .slx] [(3, .ex 42 true (List.map GTerm.c m300_.1.gKids))])], []⟩ _ (by kernel_rfl) (.cons (claws_eqTerm h336) (.cons (congrArg AV.bool h337) .nil)) ?_
      rcases oif h with ⟨h338, h⟩ | ⟨h338, h⟩
      · refine Wc.condT h338 (by kernel_rfl) ?_
        refine Wc.seq ?_
        refine Wc.region [] [] [4] [] [] ⟨[(4, (.v (.bool false), []))], [], []⟩ _ (by kernel_rfl) .nil ?_
        refine Wc.ret ?_
        obtain rfl := Option.some.inj h
        exact ⟨.inl rfl, by kernel_rfl, by kernel_rfl⟩
      · refine Wc.condF h338 (by kernel_rfl) ?_
        refine Wc.fix (st' := ⟨[(1, (.v (.int .i64 b295_), [])), (2, (.ptr 2 0, [])), (6, (.ptr 6 0, [])), (7, (.v (.bool m298_.2), [])), (8, (.ptr 8 0, [])), (9, (.ptr 9 0, [])), (10, (.v (.bool m300_.2), []))], [(2, .cells [.sl (List.map GCell.c e294_.gCells), .sl (List.map cI.i64 e294_.gTrail)] []), (6, .cells [.int .i64 m298_.1.gKind, .str m298_.1.gName, .int .i64 m298_.1.gNum, .sl (List.map GTerm.c m298_.1.gKids)] [(3, .app 42)]), (8, .cells [.slx, .slx] [(0, .ex 139 true (List.map GCell.c e299_.gCells)), (1, .ex 3 true (List.map cI.i64 e299_.gTrail))]), (9, .cells [.int .i64 m300_.1.gKind, .str m300_.1.gName, .int .i64 m300_.1.gNum, .slx] [(3, .ex 42 true (List.map GTerm.c m300_.1.gKids))])], []⟩) [] [1, 2, 6, 7, 8, 9, 10] [2, 6, 8, 9] [] (by kernel_rfl) ?_
        refine Wc.skip ?_
        refine Wc.seq ?_
        refine Wc.seq ?_
        obtain ⟨e302_, h339, h⟩ := obind h
        obtain ⟨f303_, h340, h⟩ := obind h
        refine Wc.draw hmix [{}, {}, { r := some (.v (.agg [.sl (List.map GCell.c e302_.gCells), .sl (List.map cI.i64 e302_.gTrail)]) []) }, { r := some (.v (.bool f303_) []) }] [] [1, 2, 6, 7, 8, 9, 10, 49] [2, 6, 8, 9] [] ⟨[(1, (.v (.int .i64 b295_), [])), (2, (.ptr 2 0, [])), (6, (.ptr 6 0, [])), (7, (.v (.bool m298_.2), [])), (8, (.ptr 8 0, [])), (9, (.ptr 9 0, [])), (10, (.v (.bool m300_.2), [])), (49, (.v (.bool (!f303_)), []))], [(2, .cells [.sl (List.map GCell.c e294_.gCells), .sl (List.map cI.i64 e294_.gTrail)] []), (6, .cells [.int .i64 m298_.1.gKind, .str m298_.1.gName, .int .i64 m298_.1.gNum, .sl (List.map GTerm.c m298_.1.gKids)] [(3, .app 42)]), (8, .cells [.slx, .slx] [(0, .ex 139 true (List.map GCell.c e299_.gCells)), (1, .ex 3 true (List.map cI.i64 e299_.gTrail))]), (9, .cells [.int .i64 m300_.1.gKind, .str m300_.1.gName, .int .i64 m300_.1.gNum, .slx] [(3, .ex 42 true (List.map GTerm.c m300_.1.gKids))])], []⟩ _ (by kernel_rfl) (fun X => by kernel_rfl) (.cons (claws_toHeap h339) (.cons (claws_eqHeap h340) .nil)) ?_
        rcases oif h with ⟨h341, h⟩ | ⟨h341, h⟩
        · refine Wc.condT h341 (by kernel_rfl) ?_
          refine Wc.seq ?_
          refine Wc.region [] [] [4] [] [] ⟨[(4, (.v (.bool false), []))], [], []⟩ _ (by kernel_rfl) .nil ?_
          refine Wc.ret ?_
          obtain rfl := Option.some.inj h
          exact ⟨.inl rfl, by kernel_rfl, by kernel_rfl⟩
        · refine Wc.condF h341 (by kernel_rfl) ?_
          refine Wc.fix (st' := ⟨[(1, (.v (.int .i64 b295_), [])), (2, (.ptr 2 0, [])), (6, (.ptr 6 0, [])), (7, (.v (.bool m298_.2), [])), (8, (.ptr 8 0, [])), (9, (.ptr 9 0, [])), (10, (.v (.bool m300_.2), []))], [(2, .cells [.sl (List.map GCell.c e294_.gCells), .sl (List.map cI.i64 e294_.gTrail)] []), (6, .cells [.int .i64 m298_.1.gKind, .str m298_.1.gName, .int .i64 m298_.1.gNum, .sl (List.map GTerm.c m298_.1.gKids)] [(3, .app 42)]), (8, .cells [.slx, .slx] [(0, .ex 139 true (List.map GCell.c e299_.gCells)), (1, .ex 3 true (List.map cI.i64 e299_.gTrail))]), (9, .cells [.int .i64 m300_.1.gKind, .str m300_.1.gName, .int .i64 m300_.1.gNum, .slx] [(3, .ex 42 true (List.map GTerm.c m300_.1.gKids))])], []⟩) [] [1, 2, 6, 7, 8, 9, 10] [2, 6, 8, 9] [] (by kernel_rfl) ?_
          refine Wc.skip ?_
          refine Wc.seq ?_
          refine Wc.region [] [] [1, 2, 6, 7, 8, 9, 10, 11] [2, 6, 8, 9] [] ⟨[(1, (.v (.int .i64 b295_), [])), (2, (.ptr 2 0, [])), (6, (.ptr 6 0, [])), (7, (.v (.bool m298_.2), [])), (8, (.ptr 8 0, [])), (9, (.ptr 9 0, [])), (10, (.v (.bool m300_.2), [])), (11, (.v (.int .i64 1), []))], [(2, .cells [.sl (List.map GCell.c e294_.gCells), .sl (List.map cI.i64 e294_.gTrail)] []), (6, .cells [.int .i64 m298_.1.gKind, .str m298_.1.gName, .int .i64 m298_.1.gNum, .sl (List.map GTerm.c m298_.1.gKids)] [(3, .app 42)]), (8, .cells [.slx, .slx] [(0, .ex 139 true (List.map GCell.c e299_.gCells)), (1, .ex 3 true (List.map cI.i64 e299_.gTrail))]), (9, .cells [.int .i64 m300_.1.gKind, .str m300_.1.gName, .int .i64 m300_.1.gNum, .slx] [(3, .ex 42 true (List.map GTerm.c m300_.1.gKids))])], []⟩ _ (by kernel_rfl) .nil ?_
          refine Wc.seq ?_
          obtain ⟨v304_, h342, h⟩ := obind h
          refine Wc.region [{}, {}, { io := [0], r := some (.v (.int .i64 v304_.2) []), outs := [(0, .v .undef [(0, .ex 1000000007 true (List.map GCell.c v304_.1.gCells)), (1, .ex 1000000007 true (List.map cI.i64 v304_.1.gTrail))])] }] [] [1, 2, 6, 7, 9, 10, 11] [2, 6, 9] [] ⟨[(1, (.v (.int .i64 b295_), [])), (2, (.ptr 2 0, [])), (6, (.ptr 6 0, [])), (7, (.v (.bool m298_.2), [])), (9, (.ptr 9 0, [])), (10, (.v (.bool m300_.2), [])), (11, (.v (.int .i64 v304_.2), []))], [(2, .cells [.sl (List.map GCell.c e294_.gCells), .sl (List.map cI.i64 e294_.gTrail)] []), (6, .cells [.int .i64 m298_.1.gKind, .str m298_.1.gName, .int .i64 m298_.1.gNum, .sl (List.map GTerm.c m298_.1.gKids)] [(3, .app 42)]), (9, .cells [.int .i64 m300_.1.gKind, .str m300_.1.gName, .int .i64 m300_.1.gNum, .slx] [(3, .ex 42 true (List.map GTerm.c m300_.1.gKids))])], []⟩ _ (by kernel_rfl) (.cons (FnO.any (args := [.io (.agg [.slx, .slx]) [(0, .ex 139 true (List.map GCell.c e299_.gCells)), (1, .ex 3 true (List.map cI.i64 e299_.gTrail))], .v (.int .i64 1) []]) (claws_markHeap h342)) .nil) ?_
          refine Wc.seq ?_
          refine Wc.seq ?_
          rcases oif h with ⟨h343, h⟩ | ⟨h343, h⟩
          · refine Wc.region [{}, {}, { re := some (.bool true) }] [] [1, 2, 6, 7, 9, 65] [2, 6, 9] [] ⟨[(1, (.v (.int .i64 b295_), [])), (2, (.ptr 2 0, [])), (6, (.ptr 6 0, [])), (7, (.v (.bool m298_.2), [])), (9, (.ptr 9 0, [])), (65, (.v (.bool true), []))], [(2, .cells [.sl (List.map GCell.c e294_.gCells), .sl (List.map cI.i64 e294_.gTrail)] []), (6, .cells [.int .i64 m298_.1.gKind, .str m298_.1.gName, .int .i64 m298_.1.gNum, .sl (List.map GTerm.c m298_.1.gKids)] [(3, .app 42)]), (9, .cells [.int .i64 m300_.1.gKind, .str m300_.1.gName, .int .i64 m300_.1.gNum, .slx] [(3, .ex 42 true (List.map GTerm.c m300_.1.gKids))])], []⟩ _ (by kernel_rfl) (.cons (congrArg AV.bool h343) .nil) ?_
            refine Wc.condT rfl (by kernel_rfl) ?_
            refine Wc.seq ?_
            refine Wc.region [] [] [4] [] [] ⟨[(4, (.v (.bool false), []))], [], []⟩ _ (by kernel_rfl) .nil ?_
            refine Wc.ret ?_
            obtain rfl := Option.some.inj h
            exact ⟨.inl rfl, by kernel_rfl, by kernel_rfl⟩
          · obtain ⟨f305_, h344, h⟩ := obind h
            rcases oif h with ⟨h345, h⟩ | ⟨h345, h⟩
            · refine Wc.region [{}, {}, { re := some (.bool false) }, {}, {}, { r := some (.v (.bool f305_) []) }, {}, {}, { re := some (.bool true) }] [] [1, 2, 6, 7, 9, 65] [2, 6, 9] [] ⟨[(1, (.v (.int .i64 b295_), [])), (2, (.ptr 2 0, [])), (6, (.ptr 6 0, [])), (7, (.v (.bool m298_.2), [])), (9, (.ptr 9 0, [])), (65, (.v (.bool true), []))], [(2, .cells [.sl (List.map GCell.c e294_.gCells), .sl (List.map cI.i64 e294_.gTrail)] []), (6, .cells [.int .i64 m298_.1.gKind, .str m298_.1.gName, .int .i64 m298_.1.gNum, .sl (List.map GTerm.c m298_.1.gKids)] [(3, .app 42)]), (9, .cells [.int .i64 m300_.1.gKind, .str m300_.1.gName, .int .i64 m300_.1.gNum, .slx] [(3, .ex 42 true (List.map GTerm.c m300_.1.gKids))])], []⟩ _ (by kernel_rfl) (.cons (congrArg AV.bool h343) (.cons (claws_eqTerm h344) (.cons (congrArg AV.bool h345) .nil))) ?_
              refine Wc.condT rfl (by kernel_rfl) ?_
              refine Wc.seq ?_
              refine Wc.region [] [] [4] [] [] ⟨[(4, (.v (.bool false), []))], [], []⟩ _ (by kernel_rfl) .nil ?_
              refine Wc.ret ?_
              obtain rfl := Option.some.inj h
              exact ⟨.inl rfl, by kernel_rfl, by kernel_rfl⟩
            · refine Wc.region [{}, {}, { re := some (.bool false) }, {}, {}, { r := some (.v (.bool f305_) []) }, {}, {}, { re := some (.bool false) }] [] [1, 2, 6, 7, 9, 65] [2, 6, 9] [] ⟨[(1, (.v (.int .i64 b295_), [])), (2, (.ptr 2 0, [])), (6, (.ptr 6 0, [])), (7, (.v (.bool m298_.2), [])), (9, (.ptr 9 0, [])), (65, (.v (.bool (!(m300_.2 == m298_.2))), []))], [(2, .cells [.sl (List.map GCell.c e294_.gCells), .sl (List.map cI.i64 e294_.gTrail)] []), (6, .cells [.int .i64 m298_.1.gKind, .str m298_.1.gName, .int .i64 m298_.1.gNum, .sl (List.map GTerm.c m298_.1.gKids)] [(3, .app 42)]), (9, .cells [.int .i64 m300_.1.gKind, .str m300_.1.gName, .int .i64 m300_.1.gNum, .slx] [(3, .ex 42 true (List.map GTerm.c m300_.1.gKids))])], []⟩ _ (by kernel_rfl) (.cons (congrArg AV.bool h343) (.cons (claws_eqTerm h344) (.cons (congrArg AV.bool h345) .nil))) ?_
              rcases oif h with ⟨h346, h⟩ | ⟨h346, h⟩
              · refine Wc.condT h346 (by kernel_rfl) ?_
                refine Wc.seq ?_
                refine Wc.region [] [] [4] [] [] ⟨[(4, (.v (.bool false), []))], [], []⟩ _ (by kernel_rfl) .nil ?_
                refine Wc.ret ?_
                obtain rfl := Option.some.inj h
                exact ⟨.inl rfl, by kernel_rfl, by kernel_rfl⟩
              · refine Wc.condF h346 (by kernel_rfl) ?_
                refine Wc.fix (st' := ⟨[(1, (.v (.int .i64 b295_), [])), (2, (.ptr 2 0, [])), (6, (.ptr 6 0, [])), (7, (.v (.bool m298_.2), [])), (9, (.ptr 9 0, []))], [(2, .cells [.sl (List.map GCell.c e294_.gCells), .sl (List.map cI.i64 e294_.gTrail)] []), (6, .cells [.int .i64 m298_.1.gKind, .str m298_.1.gName, .int .i64 m298_.1.gNum, .sl (List.map GTerm.c m298_.1.gKids)] [(3, .app 42)]), (9, .cells [.int .i64 m300_.1.gKind, .str m300_.1.gName, .int .i64 m300_.1.gNum, .slx] [(3, .ex 42 true (List.map GTerm.c m300_.1.gKids))])], []⟩) [] [1, 2, 6, 7, 9] [2, 6, 9] [] (by kernel_rfl) ?_
                refine Wc.skip ?_
                refine Wc.seq ?_
                refine Wc.region [] [] [1, 2, 6, 7, 9, 12] [2, 6, 9] [] ⟨[(1, (.v (.int .i64 b295_), [])), (2, (.ptr 2 0, [])), (6, (.ptr 6 0, [])), (7, (.v (.bool m298_.2), [])), (9, (.ptr 9 0, [])), (12, (.v (.int .i64 1), []))], [(2, .cells [.sl (List.map GCell.c e294_.gCells), .sl (List.map cI.i64 e294_.gTrail)] []), (6, .cells [.int .i64 m298_.1.gKind, .str m298_.1.gName, .int .i64 m298_.1.gNum, .sl (List.map GTerm.c m298_.1.gKids)] [(3, .app 42)]), (9, .cells [.int .i64 m300_.1.gKind, .str m300_.1.gName, .int .i64 m300_.1.gNum, .slx] [(3, .ex 42 true (List.map GTerm.c m300_.1.gKids))])], []⟩ _ (by kernel_rfl) .nil ?_
                refine Wc.seq ?_
                obtain ⟨w306_, h347, h⟩ := obind h
                refine Wc.region [{}, {}, { io := [0], r := some (.v (.int .i64 w306_.2) []), outs := [(0, .v .undef [(3, .ex 1000000007 true (List.map GTerm.c w306_.1.gKids))])] }] [] [1, 2, 6, 7, 9, 12] [2, 6, 9] [] ⟨[(1, (.v (.int .i64 b295_), [])), (2, (.ptr 2 0, [])), (6, (.ptr 6 0, [])), (7, (.v (.bool m298_.2), [])), (9, (.ptr 9 0, [])), (12, (.v (.int .i64 w306_.2), []))], [(2, .cells [.sl (List.map GCell.c e294_.gCells), .sl (List.map cI.i64 e294_.gTrail)] []), (6, .cells [.int .i64 m298_.1.gKind, .str m298_.1.gName, .int .i64 m298_.1.gNum, .sl (List.map GTerm.c m298_.1.gKids)] [(3, .app 42)]), (9, .cells [.int .i64 m300_.1.gKind, .str m300_.1.gName, .int .i64 m300_.1.gNum, .slx] [(3, .ex 1000000007 true (List.map GTerm.c w306_.1.gKids))])], []⟩ _ (by kernel_rfl) (.cons (FnO.any (args := [.io (.agg [.int .i64 m300_.1.gKind, .str m300_.1.gName, .int .i64 m300_.1.gNum, .slx]) [(3, .ex 42 true (List.map GTerm.c m300_.1.gKids))], .v (.int .i64 1) []]) (claws_markTerm h347)) .nil) ?_
                refine Wc.seq ?_
                refine Wc.region [] [] [1, 2, 6, 7, 9, 12, 13] [2, 6, 9] [] ⟨[(1, (.v (.int .i64 b295_), [])), (2, (.ptr 2 0, [])), (6, (.ptr 6 0, [])), (7, (.v (.bool m298_.2), [])), (9, (.ptr 9 0, [])), (12, (.v (.int .i64 w306_.2), [])), (13, (.v (.int .i64 1), []))], [(2, .cells [.sl (List.map GCell.c e294_.gCells), .sl (List.map cI.i64 e294_.gTrail)] []), (6, .cells [.int .i64 m298_.1.gKind, .str m298_.1.gName, .int .i64 m298_.1.gNum, .sl (List.map GTerm.c m298_.1.gKids)] [(3, .app 42)]), (9, .cells [.int .i64 m300_.1.gKind, .str m300_.1.gName, .int .i64 m300_.1.gNum, .slx] [(3, .ex 1000000007 true (List.map GTerm.c w306_.1.gKids))])], []⟩ _ (by kernel_rfl) .nil ?_
                refine Wc.seq ?_
                obtain ⟨b307_, h348, h⟩ := obind h
                refine Wc.region [{}, {}, { r := some (.v (.int .i64 b307_) []) }] [] [1, 2, 6, 7, 9, 12, 13] [2, 6, 9] [] ⟨[(1, (.v (.int .i64 b295_), [])), (2, (.ptr 2 0, [])), (6, (.ptr 6 0, [])), (7, (.v (.bool m298_.2), [])), (9, (.ptr 9 0, [])), (12, (.v (.int .i64 w306_.2), [])), (13, (.v (.int .i64 b307_), []))], [(2, .cells [.sl (List.map GCell.c e294_.gCells), .sl (List.map cI.i64 e294_.gTrail)] []), (6, .cells [.int .i64 m298_.1.gKind, .str m298_.1.gName, .int .i64 m298_.1.gNum, .sl (List.map GTerm.c m298_.1.gKids)] [(3, .app 42)]), (9, .cells [.int .i64 m300_.1.gKind, .str m300_.1.gName, .int .i64 m300_.1.gNum, .slx] [(3, .ex 1000000007 true (List.map GTerm.c w306_.1.gKids))])], []⟩ _ (by kernel_rfl) (.cons (claws_heldTerm h348) .nil) ?_
                refine Wc.seq ?_
                refine Wc.seq ?_
                refine Wc.region [] [] [1, 2, 6, 7, 9, 12, 13, 73] [2, 6, 9] [] ⟨[(1, (.v (.int .i64 b295_), [])), (2, (.ptr 2 0, [])), (6, (.ptr 6 0, [])), (7, (.v (.bool m298_.2), [])), (9, (.ptr 9 0, [])), (12, (.v (.int .i64 w306_.2), [])), (13, (.v (.int .i64 b307_), [])), (73, (.v (.bool (decide (b307_ < 0))), []))], [(2, .cells [.sl (List.map GCell.c e294_.gCells), .sl (List.map cI.i64 e294_.gTrail)] []), (6, .cells [.int .i64 m298_.1.gKind, .str m298_.1.gName, .int .i64 m298_.1.gNum, .sl (List.map GTerm.c m298_.1.gKids)] [(3, .app 42)]), (9, .cells [.int .i64 m300_.1.gKind, .str m300_.1.gName, .int .i64 m300_.1.gNum, .slx] [(3, .ex 1000000007 true (List.map GTerm.c w306_.1.gKids))])], []⟩ _ (by kernel_rfl) .nil ?_
                rcases oif h with ⟨h349, h⟩ | ⟨h349, h⟩
                · refine Wc.condT h349 (by kernel_rfl) ?_
                  refine Wc.seq ?_
                  refine Wc.region [] [] [4] [] [] ⟨[(4, (.v (.bool false), []))], [], []⟩ _ (by kernel_rfl) .nil ?_
                  refine Wc.ret ?_
                  obtain rfl := Option.some.inj h
                  exact ⟨.inl rfl, by kernel_rfl, by kernel_rfl⟩
                · refine Wc.condF h349 (by kernel_rfl) ?_
                  refine Wc.fix (st' := ⟨[(1, (.v (.int .i64 b295_), [])), (2, (.ptr 2 0, [])), (6, (.ptr 6 0, [])), (7, (.v (.bool m298_.2), [])), (9, (.ptr 9 0, [])), (12, (.v (.int .i64 w306_.2), [])), (13, (.v (.int .i64 b307_), []))], [(2, .cells [.sl (List.map GCell.c e294_.gCells), .sl (List.map cI.i64 e294_.gTrail)] []), (6, .cells [.int .i64 m298_.1.gKind, .str m298_.1.gName, .int .i64 m298_.1.gNum, .sl (List.map GTerm.c m298_.1.gKids)] [(3, .app 42)]), (9, .cells [.int .i64 m300_.1.gKind, .str m300_.1.gName, .int .i64 m300_.1.gNum, .slx] [(3, .ex 1000000007 true (List.map GTerm.c w306_.1.gKids))])], []⟩) [] [1, 2, 6, 7, 9, 12, 13] [2, 6, 9] [] (by kernel_rfl) ?_
                  refine Wc.skip ?_
                  refine Wc.seq ?_
                  refine Wc.seq ?_
                  refine Wc.region [] [] [1, 2, 6, 7, 9, 12, 76] [2, 6, 9] [] ⟨[(1, (.v (.int .i64 b295_), [])), (2, (.ptr 2 0, [])), (6, (.ptr 6 0, [])), (7, (.v (.bool m298_.2), [])), (9, (.ptr 9 0, [])), (12, (.v (.int .i64 w306_.2), [])), (76, (.v (.bool (b307_ != w306_.2)), []))], [(2, .cells [.sl (List.map GCell.c e294_.gCells), .sl (List.map cI.i64 e294_.gTrail)] []), (6, .cells [.int .i64 m298_.1.gKind, .str m298_.1.gName, .int .i64 m298_.1.gNum, .sl (List.map GTerm.c m298_.1.gKids)] [(3, .app 42)]), (9, .cells [.int .i64 m300_.1.gKind, .str m300_.1.gName, .int .i64 m300_.1.gNum, .slx] [(3, .ex 1000000007 true (List.map GTerm.c w306_.1.gKids))])], []⟩ _ (by kernel_rfl) .nil ?_
                  rcases oif h with ⟨h350, h⟩ | ⟨h350, h⟩
                  · refine Wc.condT h350 (by kernel_rfl) ?_
                    refine Wc.seq ?_
                    refine Wc.region [] [] [4] [] [] ⟨[(4, (.v (.bool false), []))], [], []⟩ _ (by kernel_rfl) .nil ?_
                    refine Wc.ret ?_
                    obtain rfl := Option.some.inj h
                    exact ⟨.inl rfl, by kernel_rfl, by kernel_rfl⟩
                  · refine Wc.condF h350 (by kernel_rfl) ?_
                    refine Wc.fix (st' := ⟨[(1, (.v (.int .i64 b295_), [])), (2, (.ptr 2 0, [])), (6, (.ptr 6 0, [])), (7, (.v (.bool m298_.2), [])), (9, (.ptr 9 0, [])), (12, (.v (.int .i64 w306_.2), []))], [(2, .cells [.sl (List.map GCell.c e294_.gCells), .sl (List.map cI.i64 e294_.gTrail)] []), (6, .cells [.int .i64 m298_.1.gKind, .str m298_.1.gName, .int .i64 m298_.1.gNum, .sl (List.map GTerm.c m298_.1.gKids)] [(3, .app 42)]), (9, .cells [.int .i64 m300_.1.gKind, .str m300_.1.gName, .int .i64 m300_.1.gNum, .slx] [(3, .ex 1000000007 true (List.map GTerm.c w306_.1.gKids))])], []⟩) [] [1, 2, 6, 7, 9, 12] [2, 6, 9] [] (by kernel_rfl) ?_
                    refine Wc.skip ?_
                    refine Wc.seq ?_
                    obtain ⟨e308_, h351, h⟩ := obind h
                    obtain ⟨m309_, h352, h⟩ := obind h
                    refine Wc.region [{}, { r := some (.v (.agg [.sl (List.map GCell.c e308_.gCells), .sl (List.map cI.i64 e308_.gTrail)]) []) }, {}, { r := some (.v (.tup [.agg [.int .i64 m309_.1.gKind, .str m309_.1.gName, .int .i64 m309_.1.gNum, .sl (List.map GTerm.c m309_.1.gKids)], .bool m309_.2]) [(3, .app 42)]) }, { tk := [81] }, { tk := [77] }, {}, {}, { tk := [82] }] [] [6, 7, 9, 12, 14, 15] [6, 9, 14] [] ⟨[(6, (.ptr 6 0, [])), (7, (.v (.bool m298_.2), [])), (9, (.ptr 9 0, [])), (12, (.v (.int .i64 w306_.2), [])), (14, (.ptr 14 0, [])), (15, (.v (.bool m309_.2), []))], [(6, .cells [.int .i64 m298_.1.gKind, .str m298_.1.gName, .int .i64 m298_.1.gNum, .sl (List.map GTerm.c m298_.1.gKids)] [(3, .app 42)]), (9, .cells [.int .i64 m300_.1.gKind, .str m300_.1.gName, .int .i64 m300_.1.gNum, .slx] [(3, .ex 1000000007 true (List.map GTerm.c w306_.1.gKids))]), (14, .cells [.int .i64 m309_.1.gKind, .str m309_.1.gName, .int .i64 m309_.1.gNum, .sl (List.map GTerm.c m309_.1.gKids)] [(3, .app 42)])], []⟩ _ (by kernel_rfl) (.cons (claws_toHeap h351) (.cons (cimpl_TermAt h352) .nil)) ?_
                    refine Wc.seq ?_
                    refine Wc.seq ?_
                    obtain ⟨f310_, h353, h⟩ := obind h
                    rcases oif h with ⟨h354, h⟩ | ⟨h354, h⟩
                    · refine Wc.region [{}, {}, { r := some (.v (.bool f310_) []) }, {}, { re := some (.bool true) }] [] [9, 12, 92] [9] [] ⟨[(9, (.ptr 9 0, [])), (12, (.v (.int .i64 w306_.2), [])), (92, (.v (.bool true), []))], [(9, .cells [.int .i64 m300_.1.gKind, .str m300_.1.gName, .int .i64 m300_.1.gNum, .slx] [(3, .ex 1000000007 true (List.map GTerm.c w306_.1.gKids))])], []⟩ _ (by kernel_rfl) (.cons (claws_eqTerm h353) (.cons (congrArg AV.bool h354) .nil)) ?_
                      refine Wc.condT rfl (by kernel_rfl) ?_
                      refine Wc.seq ?_
                      refine Wc.region [] [] [4] [] [] ⟨[(4, (.v (.bool false), []))], [], []⟩ _ (by kernel_rfl) .nil ?_
                      refine Wc.ret ?_
                      obtain rfl := Option.some.inj h
                      exact ⟨.inl rfl, by kernel_rfl, by kernel_rfl⟩
                    · refine Wc.region [{}, {}, { r := some (.v (.bool f310_) []) }, {}, { re := some (.bool false) }] [] [9, 12, 92] [9] [] ⟨[(9, (.ptr 9 0, [])), (12, (.v (.int .i64 w306_.2), [])), (92, (.v (.bool (!(m309_.2 == m298_.2))), []))], [(9, .cells [.int .i64 m300_.1.gKind, .str m300_.1.gName, .int .i64 m300_.1.gNum, .slx] [(3, .ex 1000000007 true (List.map GTerm.c w306_.1.gKids))])], []⟩ _ (by kernel_rfl) (.cons (claws_eqTerm h353) (.cons (congrArg AV.bool h354) .nil)) ?_
                      rcases oif h with ⟨h355, h⟩ | ⟨h355, h⟩
                      · refine Wc.condT h355 (by kernel_rfl) ?_
                        refine Wc.seq ?_
                        refine Wc.region [] [] [4] [] [] ⟨[(4, (.v (.bool false), []))], [], []⟩ _ (by kernel_rfl) .nil ?_
                        refine Wc.ret ?_
                        obtain rfl := Option.some.inj h
                        exact ⟨.inl rfl, by kernel_rfl, by kernel_rfl⟩
                      · refine Wc.condF h355 (by kernel_rfl) ?_
                        refine Wc.fix (st' := ⟨[(9, (.ptr 9 0, [])), (12, (.v (.int .i64 w306_.2), []))], [(9, .cells [.int .i64 m300_.1.gKind, .str m300_.1.gName, .int .i64 m300_.1.gNum, .slx] [(3, .ex 1000000007 true (List.map GTerm.c w306_.1.gKids))])], []⟩) [] [9, 12] [9] [] (by kernel_rfl) ?_
                        refine Wc.skip ?_
                        refine Wc.seq ?_
                        refine Wc.region [] [] [9, 12, 13] [9] [] ⟨[(9, (.ptr 9 0, [])), (12, (.v (.int .i64 w306_.2), [])), (13, (.v (.int .i64 1), []))], [(9, .cells [.int .i64 m300_.1.gKind, .str m300_.1.gName, .int .i64 m300_.1.gNum, .slx] [(3, .ex 1000000007 true (List.map GTerm.c w306_.1.gKids))])], []⟩ _ (by kernel_rfl) .nil ?_
                        refine Wc.seq ?_
                        obtain ⟨b311_, h356, h⟩ := obind h
                        refine Wc.region [{}, {}, { r := some (.v (.int .i64 b311_) []) }] [] [12, 13] [] [] ⟨[(12, (.v (.int .i64 w306_.2), [])), (13, (.v (.int .i64 b311_), []))], [], []⟩ _ (by kernel_rfl) (.cons (claws_heldTerm h356) .nil) ?_
                        refine Wc.seq ?_
                        refine Wc.seq ?_
                        refine Wc.region [] [] [12, 13, 97] [] [] ⟨[(12, (.v (.int .i64 w306_.2), [])), (13, (.v (.int .i64 b311_), [])), (97, (.v (.bool (decide (b311_ < 0))), []))], [], []⟩ _ (by kernel_rfl) .nil ?_
                        rcases oif h with ⟨h357, h⟩ | ⟨h357, h⟩
                        · refine Wc.condT h357 (by kernel_rfl) ?_
                          refine Wc.seq ?_
                          refine Wc.region [] [] [4] [] [] ⟨[(4, (.v (.bool false), []))], [], []⟩ _ (by kernel_rfl) .nil ?_
                          refine Wc.ret ?_
                          obtain rfl := Option.some.inj h
                          exact ⟨.inl rfl, by kernel_rfl, by kernel_rfl⟩
                        · refine Wc.condF h357 (by kernel_rfl) ?_
                          refine Wc.fix (st' := ⟨[(12, (.v (.int .i64 w306_.2), [])), (13, (.v (.int .i64 b311_), []))], [], []⟩) [] [12, 13] [] [] (by kernel_rfl) ?_
                          refine Wc.skip ?_
                          refine Wc.seq ?_
                          refine Wc.seq ?_
                          refine Wc.region [] [] [100] [] [] ⟨[(100, (.v (.bool (b311_ != w306_.2)), []))], [], []⟩ _ (by kernel_rfl) .nil ?_
                          rcases oif h with ⟨h358, h⟩ | ⟨h358, h⟩
                          · refine Wc.condT h358 (by kernel_rfl) ?_
                            refine Wc.seq ?_
                            refine Wc.region [] [] [4] [] [] ⟨[(4, (.v (.bool false), []))], [], []⟩ _ (by kernel_rfl) .nil ?_
                            refine Wc.ret ?_
                            obtain rfl := Option.some.inj h
                            exact ⟨.inl rfl, by kernel_rfl, by kernel_rfl⟩
                          · refine Wc.condF h358 (by kernel_rfl) ?_
                            refine Wc.fix (st' := ⟨[], [], []⟩) [] [] [] [] (by kernel_rfl) ?_
                            refine Wc.skip ?_
                            refine Wc.seq ?_
                            refine Wc.region [] [] [4] [] [] ⟨[(4, (.v (.bool true), []))], [], []⟩ _ (by kernel_rfl) .nil ?_
                            refine Wc.ret ?_
                            obtain rfl := Option.some.inj h
                            exact ⟨.inl rfl, by kernel_rfl, by kernel_rfl⟩
end Go.Proofs.Ytgfpmdaihkdhkaa

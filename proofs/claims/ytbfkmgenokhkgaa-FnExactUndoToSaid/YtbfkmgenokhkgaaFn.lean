/- What the functions do, part 2. -/
import Derived.Test.YtbfkmgenokhkgaaFna
set_option linter.unusedVariables false
set_option linter.unusedSimpArgs false
namespace Go.Proofs.Ytbfkmgenokhkgaa
open Go.RowKit Go.Bv
def pimpl_copyHeap_L1 (k : Nat) (e242_ : GHeap) : Nat → Int → GHeap → Option (Out GHeap GHeap)
  | 0, _, _ => none
  | m + 1, b243_, e244_ =>
    if (decide (b243_ < (e242_.gCells.length : Int))) = true then
      (at' e242_.gCells b243_).bind fun c246_ =>
      if ([] : List Int).length + c246_.gKids.length ≤ 1073741824 then
        if e244_.gCells.length + [c246_].length ≤ 1073741824 then
          pimpl_copyHeap_L1 k e242_ m (wr.i64 (b243_ + 1)) (GHeap.mk (e244_.gCells ++ [c246_]) e244_.gTrail)
        else none
      else none
    else
      some (.done e244_)
/-- impl.copyHeap -/
def pimpl_copyHeap (k : Nat) (e242_ : GHeap) : Option GHeap :=
  if ([] : List Int).length + e242_.gTrail.length ≤ 1073741824 then
    (pimpl_copyHeap_L1 k e242_ k 0 (GHeap.mk [] e242_.gTrail)).bind fun out1 => match out1 with
    | .ret r => some r
    | .done e245_ =>
      some e245_
  else none
theorem cimpl_copyHeap {k : Nat} {e242_ : GHeap} {r : GHeap} (h : pimpl_copyHeap k e242_ = some r) : FnO Try.prog 79 [.v (.agg [.sl (List.map GCell.c e242_.gCells), .sl (List.map cI.i64 e242_.gTrail)]) []] (.v (.agg [.sl (List.map GCell.c r.gCells), .sl (List.map cI.i64 r.gTrail)]) [(0, .app 110), (1, .app 3)]) [] := by
  refine FnO.of Try.func79 (rfl : Try.f79.body = some _) (Nat.le_of_ble_eq_true (by kernel_rfl)) (Nat.le_of_ble_eq_true (by kernel_rfl)) ?_
  intro w0 X0 Fin pv0 pb
  unfold pimpl_copyHeap at h
  refine Wc.seq ?_
  refine Wc.region [] [] [1, 2] [1, 2] [] ⟨[(1, (.ptr 1 0, [])), (2, (.ptr 2 0, []))], [(1, .cells [.sl (List.map GCell.c e242_.gCells), .sl (List.map cI.i64 e242_.gTrail)] []), (2, .cells [.sl (List.map GCell.c []), .sl (List.map cI.i64 [])] [(0, .app 110), (1, .app 3)])], []⟩ _ (by kernel_rfl) .nil ?_
  refine Wc.seq ?_
  obtain ⟨h230, h⟩ := oguard h
  refine Wc.region [{}, {}, { c := some (List.map cI.i64 e242_.gTrail) }, { tk := [8] }, {}, { tk := [9] }] [] [1, 2, 3] [1, 2, 3] [] ⟨[(1, (.ptr 1 0, [])), (2, (.ptr 2 0, [])), (3, (.ptr 3 0, []))], [(1, .cells [.sl (List.map GCell.c e242_.gCells), .sl (List.map cI.i64 e242_.gTrail)] []), (2, .cells [.sl (List.map GCell.c []), .sl (List.map cI.i64 [])] [(0, .app 110), (1, .app 3)]), (3, .cells [.sl (List.map GCell.c []), .sl (List.map cI.i64 e242_.gTrail)] [(0, .app 110), (1, .app 3)])], []⟩ _ (by kernel_rfl) (.cons (app_re0 cI.i64 e242_.gTrail) (.cons (app_leaf (c := cI.i64) (ys := e242_.gTrail) cI.i64_leaf) (.cons (app_obl2 (c := cI.i64) (xs := []) (ys := e242_.gTrail) cI.i64_len h230) .nil))) ?_
  refine Wc.seq ?_
  refine Wc.seq ?_
  refine Wc.region [{}, {}, { v := some (.int .i64 (e242_.gCells.length : Int)) }] [] [2, 3, 11, 12, 13] [2, 3] [] ⟨[(2, (.ptr 2 0, [])), (3, (.ptr 3 0, [])), (11, (.v (.sl (List.map GCell.c e242_.gCells)), [])), (12, (.v (.int .i64 (e242_.gCells.length : Int)), [])), (13, (.v (.int .i64 0), []))], [(2, .cells [.sl (List.map GCell.c []), .sl (List.map cI.i64 [])] [(0, .app 110), (1, .app 3)]), (3, .cells [.sl (List.map GCell.c []), .sl (List.map cI.i64 e242_.gTrail)] [(0, .app 110), (1, .app 3)])], []⟩ _ (by kernel_rfl) (.cons (len_obl GCell.c e242_.gCells) .nil) ?_
  obtain ⟨out1, h231, h⟩ := obind h
  refine Wc.lastJ (fun st => ∃ (e245_ : GHeap), out1 = .done e245_ ∧ st = ⟨[(2, (.ptr 2 0, [])), (3, (.ptr 3 0, []))], [(2, .cells [.sl (List.map GCell.c []), .sl (List.map cI.i64 [])] [(0, .app 110), (1, .app 3)]), (3, .cells [.sl (List.map GCell.c e245_.gCells), .sl (List.map cI.i64 e245_.gTrail)] [(0, .app 110), (1, .app 3)])], []⟩) ?_ ?_
  · refine Wc.block ?_
    refine Wc.loop (fun m st => ∃ (b243_ : Int) (e244_ : GHeap), st = ⟨[(2, (.ptr 2 0, [])), (3, (.ptr 3 0, [])), (11, (.v (.sl (List.map GCell.c e242_.gCells)), [])), (12, (.v (.int .i64 (e242_.gCells.length : Int)), [])), (13, (.v (.int .i64 b243_), []))], [(2, .cells [.sl (List.map GCell.c []), .sl (List.map cI.i64 [])] [(0, .app 110), (1, .app 3)]), (3, .cells [.sl (List.map GCell.c e244_.gCells), .sl (List.map cI.i64 e244_.gTrail)] [(0, .app 110), (1, .app 3)])], []⟩ ∧ pimpl_copyHeap_L1 k e242_ m b243_ e244_ = some out1) ?_ k ⟨_, _, rfl, h231⟩
    rintro m st ⟨b243_, e244_, rfl, h231⟩
    cases m with
    | zero => exact (onone h231).elim
    | succ m =>
      refine Wc.seq ?_
      refine Wc.region [] [] [2, 3, 11, 12, 13, 14] [2, 3] [] ⟨[(2, (.ptr 2 0, [])), (3, (.ptr 3 0, [])), (11, (.v (.sl (List.map GCell.c e242_.gCells)), [])), (12, (.v (.int .i64 (e242_.gCells.length : Int)), [])), (13, (.v (.int .i64 b243_), [])), (14, (.v (.bool (decide (b243_ < (e242_.gCells.length : Int)))), []))], [(2, .cells [.sl (List.map GCell.c []), .sl (List.map cI.i64 [])] [(0, .app 110), (1, .app 3)]), (3, .cells [.sl (List.map GCell.c e244_.gCells), .sl (List.map cI.i64 e244_.gTrail)] [(0, .app 110), (1, .app 3)])], []⟩ _ (by kernel_rfl) .nil ?_
      refine Wc.seq ?_
      rcases oif h231 with ⟨h232, h231⟩ | ⟨h232, h231⟩
      · refine Wc.condT h232 (by kernel_rfl) ?_
        refine Wc.fix (st' := ⟨[(2, (.ptr 2 0, [])), (3, (.ptr 3 0, [])), (11, (.v (.sl (List.map GCell.c e242_.gCells)), [])), (12, (.v (.int .i64 (e242_.gCells.length : Int)), [])), (13, (.v (.int .i64 b243_), []))], [(2, .cells [.sl (List.map GCell.c []), .sl (List.map cI.i64 [])] [(0, .app 110), (1, .app 3)]), (3, .cells [.sl (List.map GCell.c e244_.gCells), .sl (List.map cI.i64 e244_.gTrail)] [(0, .app 110), (1, .app 3)])], []⟩) [] [2, 3, 11, 12, 13] [2, 3] [] (by kernel_rfl) ?_
        refine Wc.skip ?_
        refine Wc.seq ?_
        refine Wc.block ?_
        refine Wc.seq ?_
        obtain ⟨c246_, h233, h231⟩ := obind h231
        refine Wc.region [{ v := some (.vptr [.int .i64 c246_.gKind, .str c246_.gName, .int .i64 c246_.gNum, .int .i64 c246_.gTo, .sl (List.map cI.i64 c246_.gKids)]) }] [] [2, 3, 5, 11, 12, 13] [2, 3, 5] [] ⟨[(2, (.ptr 2 0, [])), (3, (.ptr 3 0, [])), (5, (.ptr 5 0, [])), (11, (.v (.sl (List.map GCell.c e242_.gCells)), [])), (12, (.v (.int .i64 (e242_.gCells.length : Int)), [])), (13, (.v (.int .i64 b243_), []))], [(2, .cells [.sl (List.map GCell.c []), .sl (List.map cI.i64 [])] [(0, .app 110), (1, .app 3)]), (3, .cells [.sl (List.map GCell.c e244_.gCells), .sl (List.map cI.i64 e244_.gTrail)] [(0, .app 110), (1, .app 3)]), (5, .cells [.int .i64 c246_.gKind, .str c246_.gName, .int .i64 c246_.gNum, .int .i64 c246_.gTo, .sl (List.map cI.i64 c246_.gKids)] [])], []⟩ _ (by kernel_rfl) (.cons (at_obl (c := GCell.c) (GCell.c_eq c246_) GCell.c_len h233) (.cons (len_ok 5 [.int .i64 c246_.gKind, .str c246_.gName, .int .i64 c246_.gNum, .int .i64 c246_.gTo, .sl (List.map cI.i64 c246_.gKids)]) .nil)) ?_
        refine Wc.seq ?_
        obtain ⟨h234, h231⟩ := oguard h231
        refine Wc.region [{}, {}, { c := some (List.map cI.i64 c246_.gKids) }, {}, { tk := [19] }] [] [2, 3, 5, 11, 12, 13] [2, 3, 5] [] ⟨[(2, (.ptr 2 0, [])), (3, (.ptr 3 0, [])), (5, (.ptr 5 0, [])), (11, (.v (.sl (List.map GCell.c e242_.gCells)), [])), (12, (.v (.int .i64 (e242_.gCells.length : Int)), [])), (13, (.v (.int .i64 b243_), []))], [(2, .cells [.sl (List.map GCell.c []), .sl (List.map cI.i64 [])] [(0, .app 110), (1, .app 3)]), (3, .cells [.sl (List.map GCell.c e244_.gCells), .sl (List.map cI.i64 e244_.gTrail)] [(0, .app 110), (1, .app 3)]), (5, .cells [.int .i64 c246_.gKind, .str c246_.gName, .int .i64 c246_.gNum, .int .i64 c246_.gTo, .sl (List.map cI.i64 c246_.gKids)] [(4, .app 3)])], []⟩ _ (by kernel_rfl) (.cons (app_re0 cI.i64 c246_.gKids) (.cons (app_leaf (c := cI.i64) (ys := c246_.gKids) cI.i64_leaf) (.cons (app_obl2 (c := cI.i64) (xs := []) (ys := c246_.gKids) cI.i64_len h234) .nil))) ?_
        obtain ⟨h235, h231⟩ := oguard h231
        refine Wc.region [{}, { md := 1 }, {}, { c := some (List.map GCell.c [c246_]) }, { c := some (List.map GCell.c (e244_.gCells ++ [c246_])), tk := [22] }, {}, { tk := [25] }] [.so 3] [2, 3, 11, 12, 13] [2, 3] [] ⟨[(2, (.ptr 2 0, [])), (3, (.ptr 3 0, [])), (11, (.v (.sl (List.map GCell.c e242_.gCells)), [])), (12, (.v (.int .i64 (e242_.gCells.length : Int)), [])), (13, (.v (.int .i64 b243_), []))], [(2, .cells [.sl (List.map GCell.c []), .sl (List.map cI.i64 [])] [(0, .app 110), (1, .app 3)]), (3, .cells [.sl (List.map GCell.c (e244_.gCells ++ [c246_])), .sl (List.map cI.i64 e244_.gTrail)] [(0, .app 110), (1, .app 3)])], []⟩ _ (by kernel_rfl) (.cons (cl_cons (c := GCell.c) (x := c246_) (GCell.c_eq c246_) (cl_nil GCell.c)) (.cons (app_re2 GCell.c e244_.gCells [c246_]) (.cons (app_leaf (c := GCell.c) (ys := [c246_]) GCell.c_leaf) (.cons (app_obl2 (c := GCell.c) (xs := e244_.gCells) (ys := [c246_]) GCell.c_len h235) .nil)))) ?_
        refine Wc.region [] [] [2, 3, 11, 12, 13] [2, 3] [] ⟨[(2, (.ptr 2 0, [])), (3, (.ptr 3 0, [])), (11, (.v (.sl (List.map GCell.c e242_.gCells)), [])), (12, (.v (.int .i64 (e242_.gCells.length : Int)), [])), (13, (.v (.int .i64 (wr.i64 (b243_ + 1))), []))], [(2, .cells [.sl (List.map GCell.c []), .sl (List.map cI.i64 [])] [(0, .app 110), (1, .app 3)]), (3, .cells [.sl (List.map GCell.c (e244_.gCells ++ [c246_])), .sl (List.map cI.i64 e244_.gTrail)] [(0, .app 110), (1, .app 3)])], []⟩ _ (by kernel_rfl) .nil ?_
        exact ⟨_, Nat.lt_succ_self _, _, _, rfl, h231⟩
      · refine Wc.condF h232 (by kernel_rfl) ?_
        refine Wc.fix (st' := ⟨[(2, (.ptr 2 0, [])), (3, (.ptr 3 0, []))], [(2, .cells [.sl (List.map GCell.c []), .sl (List.map cI.i64 [])] [(0, .app 110), (1, .app 3)]), (3, .cells [.sl (List.map GCell.c e244_.gCells), .sl (List.map cI.i64 e244_.gTrail)] [(0, .app 110), (1, .app 3)])], []⟩) [] [2, 3] [2, 3] [] (by kernel_rfl) ?_
        refine Wc.exit ?_
        obtain rfl := Option.some.inj h231
        exact ⟨_, rfl, rfl⟩
  · rintro st ⟨e245_, rfl, rfl⟩
    refine Wc.seq ?_
    refine Wc.region [{ md := 1 }, { tk := [28] }] [] [2] [2] [] ⟨[(2, (.ptr 2 0, []))], [(2, .cells [.sl (List.map GCell.c e245_.gCells), .sl (List.map cI.i64 e245_.gTrail)] [(0, .app 110), (1, .app 3)])], []⟩ _ (by kernel_rfl) .nil ?_
    refine Wc.ret ?_
    obtain rfl := Option.some.inj h
    exact ⟨.inl rfl, by kernel_rfl, by kernel_rfl⟩

/-- impl.within -/
def pimpl_within (k : Nat) (b247_ : Int) (b248_ : Int) (b249_ : Int) : Option Bool :=
  if (decide (b247_ ≥ b248_)) = true then
    some (decide (b247_ ≤ b249_))
  else
    some false
theorem cimpl_within {k : Nat} {b247_ : Int} {b248_ : Int} {b249_ : Int} {r : Bool} (h : pimpl_within k b247_ b248_ b249_ = some r) : FnO Try.prog 109 [.v (.int .i64 b247_) [], .v (.int .i64 b248_) [], .v (.int .i64 b249_) []] (.v (.bool r) []) [] := by
  refine FnO.of Try.func109 (rfl : Try.f109.body = some _) (Nat.le_of_ble_eq_true (by kernel_rfl)) (Nat.le_of_ble_eq_true (by kernel_rfl)) ?_
  intro w0 X0 Fin pv0 pb
  unfold pimpl_within at h
  refine Wc.seq ?_
  refine Wc.region [] [] [0, 1, 2] [] [] ⟨[(0, (.v (.int .i64 b247_), [])), (1, (.v (.int .i64 b248_), [])), (2, (.v (.int .i64 b249_), []))], [], []⟩ _ (by kernel_rfl) .nil ?_
  refine Wc.seq ?_
  rcases oif h with ⟨h236, h⟩ | ⟨h236, h⟩
  · refine Wc.region [{}, {}, {}, { re := some (.bool true) }] [] [6] [] [] ⟨[(6, (.v (.bool (decide (b247_ ≤ b249_))), []))], [], []⟩ _ (by kernel_rfl) (.cons (congrArg AV.bool h236) .nil) ?_
    refine Wc.ret ?_
    obtain rfl := Option.some.inj h
    exact ⟨.inl rfl, by kernel_rfl, by kernel_rfl⟩
  · refine Wc.region [{}, {}, {}, { re := some (.bool false) }] [] [6] [] [] ⟨[(6, (.v (.bool false), []))], [], []⟩ _ (by kernel_rfl) (.cons (congrArg AV.bool h236) .nil) ?_
    refine Wc.ret ?_
    obtain rfl := Option.some.inj h
    exact ⟨.inl rfl, by kernel_rfl, by kernel_rfl⟩

/-- impl.isCell -/
def pimpl_isCell (k : Nat) (e250_ : GHeap) (b251_ : Int) : Option Bool :=
  (pimpl_within k b251_ 0 (wr.i64 ((e250_.gCells.length : Int) - 1))).bind fun i252_ =>
  some i252_
theorem cimpl_isCell {k : Nat} {e250_ : GHeap} {b251_ : Int} {r : Bool} (h : pimpl_isCell k e250_ b251_ = some r) : FnO Try.prog 81 [.v (.agg [.sl (List.map GCell.c e250_.gCells), .sl (List.map cI.i64 e250_.gTrail)]) [], .v (.int .i64 b251_) []] (.v (.bool r) []) [] := by
  refine FnO.of Try.func81 (rfl : Try.f81.body = some _) (Nat.le_of_ble_eq_true (by kernel_rfl)) (Nat.le_of_ble_eq_true (by kernel_rfl)) ?_
  intro w0 X0 Fin pv0 pb
  unfold pimpl_isCell at h
  refine Wc.seq ?_
  refine Wc.region [] [] [1, 2] [2] [] ⟨[(1, (.v (.int .i64 b251_), [])), (2, (.ptr 2 0, []))], [(2, .cells [.sl (List.map GCell.c e250_.gCells), .sl (List.map cI.i64 e250_.gTrail)] [])], []⟩ _ (by kernel_rfl) .nil ?_
  refine Wc.seq ?_
  obtain ⟨i252_, h237, h⟩ := obind h
  refine Wc.region [{}, {}, {}, { v := some (.int .i64 (e250_.gCells.length : Int)) }, {}, { r := some (.v (.bool i252_) []) }] [] [4] [] [] ⟨[(4, (.v (.bool i252_), []))], [], []⟩ _ (by kernel_rfl) (.cons (len_obl GCell.c e250_.gCells) (.cons (cimpl_within h237) .nil)) ?_
  refine Wc.ret ?_
  obtain rfl := Option.some.inj h
  exact ⟨.inl rfl, by kernel_rfl, by kernel_rfl⟩

def pimpl_follow_L1 (k : Nat) (e253_ : GHeap) : Nat → Int → Int → Option (Out Int Unit)
  | 0, _, _ => none
  | m + 1, b255_, b256_ =>
    if (decide (b256_ < (wr.i64 ((e253_.gCells.length : Int) + 1)))) = true then
      (pimpl_isCell k e253_ b255_).bind fun i257_ =>
      if (!i257_) = true then
        some (.ret (-1))
      else
        (at' e253_.gCells b255_).bind fun c258_ =>
        if (c258_.gKind != 1) = true then
          some (.ret b255_)
        else
          if (decide (c258_.gTo < 0)) = true then
            some (.ret b255_)
          else
            (at' e253_.gCells b255_).bind fun c259_ =>
            pimpl_follow_L1 k e253_ m c259_.gTo (wr.i64 (b256_ + 1))
    else
      some (.done ())
/-- impl.follow -/
def pimpl_follow (k : Nat) (e253_ : GHeap) (b254_ : Int) : Option Int :=
  (pimpl_follow_L1 k e253_ k b254_ 0).bind fun out1 => match out1 with
  | .ret r => some r
  | .done () =>
    some (-1)
theorem cimpl_follow {k : Nat} {e253_ : GHeap} {b254_ : Int} {r : Int} (h : pimpl_follow k e253_ b254_ = some r) : FnO Try.prog 82 [.v (.agg [.sl (List.map GCell.c e253_.gCells), .sl (List.map cI.i64 e253_.gTrail)]) [], .v (.int .i64 b254_) []] (.v (.int .i64 r) []) [] := by
  refine FnO.of Try.func82 (rfl : Try.f82.body = some _) (Nat.le_of_ble_eq_true (by kernel_rfl)) (Nat.le_of_ble_eq_true (by kernel_rfl)) ?_
  intro w0 X0 Fin pv0 pb
  unfold pimpl_follow at h
  refine Wc.seq ?_
  refine Wc.region [] [] [1, 2] [2] [] ⟨[(1, (.v (.int .i64 b254_), [])), (2, (.ptr 2 0, []))], [(2, .cells [.sl (List.map GCell.c e253_.gCells), .sl (List.map cI.i64 e253_.gTrail)] [])], []⟩ _ (by kernel_rfl) .nil ?_
  refine Wc.seq ?_
  refine Wc.seq ?_
  refine Wc.region [{}, {}, { v := some (.int .i64 (e253_.gCells.length : Int)) }] [] [1, 2, 9, 10] [2] [] ⟨[(1, (.v (.int .i64 b254_), [])), (2, (.ptr 2 0, [])), (9, (.v (.int .i64 (wr.i64 ((e253_.gCells.length : Int) + 1))), [])), (10, (.v (.int .i64 0), []))], [(2, .cells [.sl (List.map GCell.c e253_.gCells), .sl (List.map cI.i64 e253_.gTrail)] [])], []⟩ _ (by kernel_rfl) (.cons (len_obl GCell.c e253_.gCells) .nil) ?_
  obtain ⟨out1, h238, h⟩ := obind h
  refine Wc.lastJ (fun st => out1 = .done () ∧ st = ⟨[], [], []⟩) ?_ ?_
  · refine Wc.block ?_
    refine Wc.loop (fun m st => ∃ (b255_ : Int) (b256_ : Int), st = ⟨[(1, (.v (.int .i64 b255_), [])), (2, (.ptr 2 0, [])), (9, (.v (.int .i64 (wr.i64 ((e253_.gCells.length : Int) + 1))), [])), (10, (.v (.int .i64 b256_), []))], [(2, .cells [.sl (List.map GCell.c e253_.gCells), .sl (List.map cI.i64 e253_.gTrail)] [])], []⟩ ∧ pimpl_follow_L1 k e253_ m b255_ b256_ = some out1) ?_ k ⟨_, _, rfl, h238⟩
    rintro m st ⟨b255_, b256_, rfl, h238⟩
    cases m with
    | zero => exact (onone h238).elim
    | succ m =>
      refine Wc.seq ?_
      refine Wc.region [] [] [1, 2, 9, 10, 11] [2] [] ⟨[(1, (.v (.int .i64 b255_), [])), (2, (.ptr 2 0, [])), (9, (.v (.int .i64 (wr.i64 ((e253_.gCells.length : Int) + 1))), [])), (10, (.v (.int .i64 b256_), [])), (11, (.v (.bool (decide (b256_ < (wr.i64 ((e253_.gCells.length : Int) + 1))))), []))], [(2, .cells [.sl (List.map GCell.c e253_.gCells), .sl (List.map cI.i64 e253_.gTrail)] [])], []⟩ _ (by kernel_rfl) .nil ?_
      refine Wc.seq ?_
      rcases oif h238 with ⟨h239, h238⟩ | ⟨h239, h238⟩
      · refine Wc.condT h239 (by kernel_rfl) ?_
        refine Wc.fix (st' := ⟨[(1, (.v (.int .i64 b255_), [])), (2, (.ptr 2 0, [])), (9, (.v (.int .i64 (wr.i64 ((e253_.gCells.length : Int) + 1))), [])), (10, (.v (.int .i64 b256_), []))], [(2, .cells [.sl (List.map GCell.c e253_.gCells), .sl (List.map cI.i64 e253_.gTrail)] [])], []⟩) [] [1, 2, 9, 10] [2] [] (by kernel_rfl) ?_
        refine Wc.skip ?_
        refine Wc.seq ?_
        refine Wc.block ?_
        refine Wc.seq ?_
        refine Wc.seq ?_
        obtain ⟨i257_, h240, h238⟩ := obind h238
        refine Wc.region [{}, {}, { r := some (.v (.bool i257_) []) }] [] [1, 2, 9, 10, 15] [2] [] ⟨[(1, (.v (.int .i64 b255_), [])), (2, (.ptr 2 0, [])), (9, (.v (.int .i64 (wr.i64 ((e253_.gCells.length : Int) + 1))), [])), (10, (.v (.int .i64 b256_), [])), (15, (.v (.bool (!i257_)), []))], [(2, .cells [.sl (List.map GCell.c e253_.gCells), .sl (List.map cI.i64 e253_.gTrail)] [])], []⟩ _ (by kernel_rfl) (.cons (cimpl_isCell h240) .nil) ?_
        rcases oif h238 with ⟨h241, h238⟩ | ⟨h241, h238⟩
        · refine Wc.condT h241 (by kernel_rfl) ?_
          refine Wc.seq ?_
          refine Wc.region [] [] [4] [] [] ⟨[(4, (.v (.int .i64 (-1)), []))], [], []⟩ _ (by kernel_rfl) .nil ?_
          refine Wc.ret ?_
          obtain rfl := Option.some.inj h238
          obtain rfl := Option.some.inj h
          exact ⟨.inl rfl, by kernel_rfl, by kernel_rfl⟩
        · refine Wc.condF h241 (by kernel_rfl) ?_
          refine Wc.fix (st' := ⟨[(1, (.v (.int .i64 b255_), [])), (2, (.ptr 2 0, [])), (9, (.v (.int .i64 (wr.i64 ((e253_.gCells.length : Int) + 1))), [])), (10, (.v (.int .i64 b256_), []))], [(2, .cells [.sl (List.map GCell.c e253_.gCells), .sl (List.map cI.i64 e253_.gTrail)] [])], []⟩) [] [1, 2, 9, 10] [2] [] (by kernel_rfl) ?_
          refine Wc.skip ?_
          refine Wc.seq ?_
          refine Wc.seq ?_
          obtain ⟨c258_, h242, h238⟩ := obind h238
          refine Wc.region [{}, {}, {}, { v := some (.vptr [.int .i64 c258_.gKind, .str c258_.gName, .int .i64 c258_.gNum, .int .i64 c258_.gTo, .sl (List.map cI.i64 c258_.gKids)]) }] [] [1, 2, 5, 9, 10] [2, 5] [] ⟨[(1, (.v (.int .i64 b255_), [])), (2, (.ptr 2 0, [])), (5, (.ptr 5 0, [])), (9, (.v (.int .i64 (wr.i64 ((e253_.gCells.length : Int) + 1))), [])), (10, (.v (.int .i64 b256_), []))], [(2, .cells [.sl (List.map GCell.c e253_.gCells), .sl (List.map cI.i64 e253_.gTrail)] []), (5, .cells [.int .i64 c258_.gKind, .str c258_.gName, .int .i64 c258_.gNum, .int .i64 c258_.gTo, .sl (List.map cI.i64 c258_.gKids)] [])], []⟩ _ (by kernel_rfl) (.cons (at_obl (c := GCell.c) (GCell.c_eq c258_) GCell.c_len h242) (.cons (len_ok 5 [.int .i64 c258_.gKind, .str c258_.gName, .int .i64 c258_.gNum, .int .i64 c258_.gTo, .sl (List.map cI.i64 c258_.gKids)]) .nil)) ?_
          refine Wc.seq ?_
          rcases oif h238 with ⟨h243, h238⟩ | ⟨h243, h238⟩
          · refine Wc.region [{}, {}, {}, { re := some (.bool true) }] [] [1, 2, 9, 10, 28] [2] [] ⟨[(1, (.v (.int .i64 b255_), [])), (2, (.ptr 2 0, [])), (9, (.v (.int .i64 (wr.i64 ((e253_.gCells.length : Int) + 1))), [])), (10, (.v (.int .i64 b256_), [])), (28, (.v (.bool true), []))], [(2, .cells [.sl (List.map GCell.c e253_.gCells), .sl (List.map cI.i64 e253_.gTrail)] [])], []⟩ _ (by kernel_rfl) (.cons (congrArg AV.bool h243) .nil) ?_
            refine Wc.condT rfl (by kernel_rfl) ?_
            refine Wc.seq ?_
            refine Wc.region [] [] [4] [] [] ⟨[(4, (.v (.int .i64 b255_), []))], [], []⟩ _ (by kernel_rfl) .nil ?_
            refine Wc.ret ?_
            obtain rfl := Option.some.inj h238
            obtain rfl := Option.some.inj h
            exact ⟨.inl rfl, by kernel_rfl, by kernel_rfl⟩
          · refine Wc.region [{}, {}, {}, { re := some (.bool false) }] [] [1, 2, 9, 10, 28] [2] [] ⟨[(1, (.v (.int .i64 b255_), [])), (2, (.ptr 2 0, [])), (9, (.v (.int .i64 (wr.i64 ((e253_.gCells.length : Int) + 1))), [])), (10, (.v (.int .i64 b256_), [])), (28, (.v (.bool (decide (c258_.gTo < 0))), []))], [(2, .cells [.sl (List.map GCell.c e253_.gCells), .sl (List.map cI.i64 e253_.gTrail)] [])], []⟩ _ (by kernel_rfl) (.cons (congrArg AV.bool h243) .nil) ?_
            rcases oif h238 with ⟨h244, h238⟩ | ⟨h244, h238⟩
            · refine Wc.condT h244 (by kernel_rfl) ?_
              refine Wc.seq ?_
              refine Wc.region [] [] [4] [] [] ⟨[(4, (.v (.int .i64 b255_), []))], [], []⟩ _ (by kernel_rfl) .nil ?_
              refine Wc.ret ?_
              obtain rfl := Option.some.inj h238
              obtain rfl := Option.some.inj h
              exact ⟨.inl rfl, by kernel_rfl, by kernel_rfl⟩
            · refine Wc.condF h244 (by kernel_rfl) ?_
              refine Wc.fix (st' := ⟨[(1, (.v (.int .i64 b255_), [])), (2, (.ptr 2 0, [])), (9, (.v (.int .i64 (wr.i64 ((e253_.gCells.length : Int) + 1))), [])), (10, (.v (.int .i64 b256_), []))], [(2, .cells [.sl (List.map GCell.c e253_.gCells), .sl (List.map cI.i64 e253_.gTrail)] [])], []⟩) [] [1, 2, 9, 10] [2] [] (by kernel_rfl) ?_
              refine Wc.skip ?_
              obtain ⟨c259_, h245, h238⟩ := obind h238
              refine Wc.region [{}, {}, {}, { v := some (.vptr [.int .i64 c259_.gKind, .str c259_.gName, .int .i64 c259_.gNum, .int .i64 c259_.gTo, .sl (List.map cI.i64 c259_.gKids)]) }] [] [1, 2, 9, 10] [2] [] ⟨[(1, (.v (.int .i64 c259_.gTo), [])), (2, (.ptr 2 0, [])), (9, (.v (.int .i64 (wr.i64 ((e253_.gCells.length : Int) + 1))), [])), (10, (.v (.int .i64 b256_), []))], [(2, .cells [.sl (List.map GCell.c e253_.gCells), .sl (List.map cI.i64 e253_.gTrail)] [])], []⟩ _ (by kernel_rfl) (.cons (at_obl (c := GCell.c) (GCell.c_eq c259_) GCell.c_len h245) (.cons (len_ok 1 [.int .i64 c259_.gTo, .sl (List.map cI.i64 c259_.gKids)]) .nil)) ?_
              refine Wc.region [] [] [1, 2, 9, 10] [2] [] ⟨[(1, (.v (.int .i64 c259_.gTo), [])), (2, (.ptr 2 0, [])), (9, (.v (.int .i64 (wr.i64 ((e253_.gCells.length : Int) + 1))), [])), (10, (.v (.int .i64 (wr.i64 (b256_ + 1))), []))], [(2, .cells [.sl (List.map GCell.c e253_.gCells), .sl (List.map cI.i64 e253_.gTrail)] [])], []⟩ _ (by kernel_rfl) .nil ?_
              exact ⟨_, Nat.lt_succ_self _, _, _, rfl, h238⟩
      · refine Wc.condF h239 (by kernel_rfl) ?_
        refine Wc.fix (st' := ⟨[], [], []⟩) [] [] [] [] (by kernel_rfl) ?_
        refine Wc.exit ?_
        obtain rfl := Option.some.inj h238
        exact ⟨rfl, rfl⟩
  · rintro st ⟨rfl, rfl⟩
    refine Wc.seq ?_
    refine Wc.region [] [] [4] [] [] ⟨[(4, (.v (.int .i64 (-1)), []))], [], []⟩ _ (by kernel_rfl) .nil ?_
    refine Wc.ret ?_
    obtain rfl := Option.some.inj h
    exact ⟨.inl rfl, by kernel_rfl, by kernel_rfl⟩

def pimpl_HeapOk_L3 (k : Nat) (c263_ : GCell) (e260_ : GHeap) : Nat → Int → Option (Out Bool Unit)
  | 0, _ => none
  | m + 1, b266_ =>
    if (decide (b266_ < (c263_.gKids.length : Int))) = true then
      (at' c263_.gKids b266_).bind fun b267_ =>
      (pimpl_isCell k e260_ b267_).bind fun i268_ =>
      if (!i268_) = true then
        some (.ret false)
      else
        pimpl_HeapOk_L3 k c263_ e260_ m (wr.i64 (b266_ + 1))
    else
      some (.done ())
def pimpl_HeapOk_J2 (k : Nat) (bk_ : Int → (List (Int × Int)) → Option (Out Bool Unit)) (c263_ : GCell) (e260_ : GHeap) (b261_ : Int) (p265_ : List (Int × Int)) : Option (Out Bool Unit) :=
  (pimpl_HeapOk_L3 k c263_ e260_ k 0).bind fun out3 => match out3 with
  | .ret r => some (.ret r)
  | .done () =>
    bk_ (wr.i64 (b261_ + 1)) p265_
def pimpl_HeapOk_L1 (k : Nat) (e260_ : GHeap) : Nat → Int → (List (Int × Int)) → Option (Out Bool Unit)
  | 0, _, _ => none
  | m + 1, b261_, p262_ =>
    if (decide (b261_ < (e260_.gCells.length : Int))) = true then
      (at' e260_.gCells b261_).bind fun c263_ =>
      (pimpl_within k c263_.gKind 1 4).bind fun i264_ =>
      if (!i264_) = true then
        some (.ret false)
      else
        if (c263_.gKind == 1) = true then
          if (decide ((mget (mset p262_ c263_.gNum (wr.i64 ((mget p262_ c263_.gNum) + 1))) c263_.gNum) > 1)) = true then
            some (.ret false)
          else
            if (c263_.gTo != (-1)) = true then
              (pimpl_isCell k e260_ c263_.gTo).bind fun i269_ =>
              if (!i269_) = true then
                some (.ret false)
              else
                (pimpl_follow k e260_ b261_).bind fun b270_ =>
                if (decide (b270_ < 0)) = true then
                  some (.ret false)
                else
                  pimpl_HeapOk_J2 k (pimpl_HeapOk_L1 k e260_ m) c263_ e260_ b261_ (mset p262_ c263_.gNum (wr.i64 ((mget p262_ c263_.gNum) + 1)))
            else
              (pimpl_follow k e260_ b261_).bind fun b269_ =>
              if (decide (b269_ < 0)) = true then
                some (.ret false)
              else
                pimpl_HeapOk_J2 k (pimpl_HeapOk_L1 k e260_ m) c263_ e260_ b261_ (mset p262_ c263_.gNum (wr.i64 ((mget p262_ c263_.gNum) + 1)))
        else
          pimpl_HeapOk_J2 k (pimpl_HeapOk_L1 k e260_ m) c263_ e260_ b261_ p262_
    else
      some (.done ())
def pimpl_HeapOk_L4 (k : Nat) (e260_ : GHeap) : Nat → Int → Option (Out Bool Unit)
  | 0, _ => none
  | m + 1, b271_ =>
    if (decide (b271_ < (e260_.gTrail.length : Int))) = true then
      (at' e260_.gTrail b271_).bind fun b272_ =>
      (pimpl_isCell k e260_ b272_).bind fun i273_ =>
      if (!i273_) = true then
        some (.ret false)
      else
        (at' e260_.gCells b272_).bind fun c274_ =>
        if (c274_.gKind != 1) = true then
          some (.ret false)
        else
          pimpl_HeapOk_L4 k e260_ m (wr.i64 (b271_ + 1))
    else
      some (.done ())
/-- impl.HeapOk -/
def pimpl_HeapOk (k : Nat) (e260_ : GHeap) : Option Bool :=
  if (decide ((e260_.gCells.length : Int) > 60000)) = true then
    some false
  else
    (pimpl_HeapOk_L1 k e260_ k 0 []).bind fun out1 => match out1 with
    | .ret r => some r
    | .done () =>
      (pimpl_HeapOk_L4 k e260_ k 0).bind fun out4 => match out4 with
      | .ret r => some r
      | .done () =>
        some true
set_option maxHeartbeats 4000000 in
theorem cimpl_HeapOk {k : Nat} {e260_ : GHeap} {r : Bool} (h : pimpl_HeapOk k e260_ = some r) : FnO Try.prog 80 [.v (.agg [.sl (List.map GCell.c e260_.gCells), .sl (List.map cI.i64 e260_.gTrail)]) []] (.v (.bool r) []) [] := by
  refine FnO.of Try.func80 (rfl : Try.f80.body = some _) (Nat.le_of_ble_eq_true (by kernel_rfl)) (Nat.le_of_ble_eq_true (by kernel_rfl)) ?_
  intro w0 X0 Fin pv0 pb
  unfold pimpl_HeapOk at h
  refine Wc.seq ?_
  refine Wc.region [] [] [1] [1] [] ⟨[(1, (.ptr 1 0, []))], [(1, .cells [.sl (List.map GCell.c e260_.gCells), .sl (List.map cI.i64 e260_.gTrail)] [])], []⟩ _ (by kernel_rfl) .nil ?_
  refine Wc.seq ?_
  refine Wc.seq ?_
  refine Wc.region [{}, {}, { v := some (.int .i64 (e260_.gCells.length : Int)) }] [] [1, 13] [1] [] ⟨[(1, (.ptr 1 0, [])), (13, (.v (.bool (decide ((e260_.gCells.length : Int) > 60000))), []))], [(1, .cells [.sl (List.map GCell.c e260_.gCells), .sl (List.map cI.i64 e260_.gTrail)] [])], []⟩ _ (by kernel_rfl) (.cons (len_obl GCell.c e260_.gCells) .nil) ?_
  rcases oif h with ⟨h246, h⟩ | ⟨h246, h⟩
  · refine Wc.condT h246 (by kernel_rfl) ?_
    refine Wc.seq ?_
    refine Wc.region [] [] [2] [] [] ⟨[(2, (.v (.bool false), []))], [], []⟩ _ (by kernel_rfl) .nil ?_
    refine Wc.ret ?_
    obtain rfl := Option.some.inj h
    exact ⟨.inl rfl, by kernel_rfl, by kernel_rfl⟩
  · refine Wc.condF h246 (by kernel_rfl) ?_
    refine Wc.fix (st' := ⟨[(1, (.ptr 1 0, []))], [(1, .cells [.sl (List.map GCell.c e260_.gCells), .sl (List.map cI.i64 e260_.gTrail)] [])], []⟩) [] [1] [1] [] (by kernel_rfl) ?_
    refine Wc.skip ?_
    refine Wc.seq ?_
    refine Wc.region [] [] [1, 3] [1, 14] [] ⟨[(1, (.ptr 1 0, [])), (3, (.mp 14, []))], [(1, .cells [.sl (List.map GCell.c e260_.gCells), .sl (List.map cI.i64 e260_.gTrail)] []), (14, .map (mgk []) (mgv []))], []⟩ _ (by kernel_rfl) .nil ?_
    refine Wc.seq ?_
    refine Wc.seq ?_
    refine Wc.region [{}, {}, { v := some (.int .i64 (e260_.gCells.length : Int)) }] [] [1, 3, 16, 17, 18] [1, 14] [] ⟨[(1, (.ptr 1 0, [])), (3, (.mp 14, [])), (16, (.v (.sl (List.map GCell.c e260_.gCells)), [])), (17, (.v (.int .i64 (e260_.gCells.length : Int)), [])), (18, (.v (.int .i64 0), []))], [(1, .cells [.sl (List.map GCell.c e260_.gCells), .sl (List.map cI.i64 e260_.gTrail)] []), (14, .map (mgk []) (mgv []))], []⟩ _ (by kernel_rfl) (.cons (len_obl GCell.c e260_.gCells) .nil) ?_
    obtain ⟨out1, h247, h⟩ := obind h
    refine Wc.lastJ (fun st => out1 = .done () ∧ st = ⟨[(1, (.ptr 1 0, []))], [(1, .cells [.sl (List.map GCell.c e260_.gCells), .sl (List.map cI.i64 e260_.gTrail)] [])], []⟩) ?_ ?_
    · refine Wc.block ?_
      refine Wc.loop (fun m st => ∃ (b261_ : Int) (p262_ : List (Int × Int)), st = ⟨[(1, (.ptr 1 0, [])), (3, (.mp 14, [])), (16, (.v (.sl (List.map GCell.c e260_.gCells)), [])), (17, (.v (.int .i64 (e260_.gCells.length : Int)), [])), (18, (.v (.int .i64 b261_), []))], [(1, .cells [.sl (List.map GCell.c e260_.gCells), .sl (List.map cI.i64 e260_.gTrail)] []), (14, .map (mgk p262_) (mgv p262_))], []⟩ ∧ pimpl_HeapOk_L1 k e260_ m b261_ p262_ = some out1) ?_ k ⟨_, _, rfl, h247⟩
      rintro m st ⟨b261_, p262_, rfl, h247⟩
      cases m with
      | zero => exact (onone h247).elim
      | succ m =>
        refine Wc.seq ?_
        refine Wc.region [] [] [1, 3, 16, 17, 18, 19] [1, 14] [] ⟨[(1, (.ptr 1 0, [])), (3, (.mp 14, [])), (16, (.v (.sl (List.map GCell.c e260_.gCells)), [])), (17, (.v (.int .i64 (e260_.gCells.length : Int)), [])), (18, (.v (.int .i64 b261_), [])), (19, (.v (.bool (decide (b261_ < (e260_.gCells.length : Int)))), []))], [(1, .cells [.sl (List.map GCell.c e260_.gCells), .sl (List.map cI.i64 e260_.gTrail)] []), (14, .map (mgk p262_) (mgv p262_))], []⟩ _ (by kernel_rfl) .nil ?_
        refine Wc.seq ?_
        rcases oif h247 with ⟨h248, h247⟩ | ⟨h248, h247⟩
        · refine Wc.condT h248 (by kernel_rfl) ?_
          refine Wc.fix (st' := ⟨[(1, (.ptr 1 0, [])), (3, (.mp 14, [])), (16, (.v (.sl (List.map GCell.c e260_.gCells)), [])), (17, (.v (.int .i64 (e260_.gCells.length : Int)), [])), (18, (.v (.int .i64 b261_), []))], [(1, .cells [.sl (List.map GCell.c e260_.gCells), .sl (List.map cI.i64 e260_.gTrail)] []), (14, .map (mgk p262_) (mgv p262_))], []⟩) [] [1, 3, 16, 17, 18] [1, 14] [] (by kernel_rfl) ?_
          refine Wc.skip ?_
          refine Wc.seq ?_
          refine Wc.block ?_
          refine Wc.seq ?_
          obtain ⟨c263_, h249, h247⟩ := obind h247
          refine Wc.region [{}, { v := some (.vptr [.int .i64 c263_.gKind, .str c263_.gName, .int .i64 c263_.gNum, .int .i64 c263_.gTo, .sl (List.map cI.i64 c263_.gKids)]) }] [] [1, 3, 4, 5, 16, 17, 18] [1, 5, 14] [] ⟨[(1, (.ptr 1 0, [])), (3, (.mp 14, [])), (4, (.v (.int .i64 b261_), [])), (5, (.ptr 5 0, [])), (16, (.v (.sl (List.map GCell.c e260_.gCells)), [])), (17, (.v (.int .i64 (e260_.gCells.length : Int)), [])), (18, (.v (.int .i64 b261_), []))], [(1, .cells [.sl (List.map GCell.c e260_.gCells), .sl (List.map cI.i64 e260_.gTrail)] []), (5, .cells [.int .i64 c263_.gKind, .str c263_.gName, .int .i64 c263_.gNum, .int .i64 c263_.gTo, .sl (List.map cI.i64 c263_.gKids)] []), (14, .map (mgk p262_) (mgv p262_))], []⟩ _ (by kernel_rfl) (.cons (at_obl (c := GCell.c) (GCell.c_eq c263_) GCell.c_len h249) (.cons (len_ok 5 [.int .i64 c263_.gKind, .str c263_.gName, .int .i64 c263_.gNum, .int .i64 c263_.gTo, .sl (List.map cI.i64 c263_.gKids)]) .nil)) ?_
          refine Wc.seq ?_
          refine Wc.seq ?_
          obtain ⟨i264_, h250, h247⟩ := obind h247
          refine Wc.region [{}, {}, { r := some (.v (.bool i264_) []) }] [] [1, 3, 4, 5, 16, 17, 18, 26] [1, 5, 14] [] ⟨[(1, (.ptr 1 0, [])), (3, (.mp 14, [])), (4, (.v (.int .i64 b261_), [])), (5, (.ptr 5 0, [])), (16, (.v (.sl (List.map GCell.c e260_.gCells)), [])), (17, (.v (.int .i64 (e260_.gCells.length : Int)), [])), (18, (.v (.int .i64 b261_), [])), (26, (.v (.bool (!i264_)), []))], [(1, .cells [.sl (List.map GCell.c e260_.gCells), .sl (List.map cI.i64 e260_.gTrail)] []), (5, .cells [.int .i64 c263_.gKind, .str c263_.gName, .int .i64 c263_.gNum, .int .i64 c263_.gTo, .sl (List.map cI.i64 c263_.gKids)] []), (14, .map (mgk p262_) (mgv p262_))], []⟩ _ (by kernel_rfl) (.cons (cimpl_within h250) .nil) ?_
          rcases oif h247 with ⟨h251, h247⟩ | ⟨h251, h247⟩
          · refine Wc.condT h251 (by kernel_rfl) ?_
            refine Wc.seq ?_
            refine Wc.region [] [] [2] [] [] ⟨[(2, (.v (.bool false), []))], [], []⟩ _ (by kernel_rfl) .nil ?_
            refine Wc.ret ?_
            obtain rfl := Option.some.inj h247
            obtain rfl := Option.some.inj h
            exact ⟨.inl rfl, by kernel_rfl, by kernel_rfl⟩
          · refine Wc.condF h251 (by kernel_rfl) ?_
            refine Wc.fix (st' := ⟨[(1, (.ptr 1 0, [])), (3, (.mp 14, [])), (4, (.v (.int .i64 b261_), [])), (5, (.ptr 5 0, [])), (16, (.v (.sl (List.map GCell.c e260_.gCells)), [])), (17, (.v (.int .i64 (e260_.gCells.length : Int)), [])), (18, (.v (.int .i64 b261_), []))], [(1, .cells [.sl (List.map GCell.c e260_.gCells), .sl (List.map cI.i64 e260_.gTrail)] []), (5, .cells [.int .i64 c263_.gKind, .str c263_.gName, .int .i64 c263_.gNum, .int .i64 c263_.gTo, .sl (List.map cI.i64 c263_.gKids)] []), (14, .map (mgk p262_) (mgv p262_))], []⟩) [] [1, 3, 4, 5, 16, 17, 18] [1, 5, 14] [] (by kernel_rfl) ?_
            refine Wc.skip ?_
            refine Wc.seqJ (fun st => ∃ (p265_ : List (Int × Int)), st = ⟨[(1, (.ptr 1 0, [])), (3, (.mp 14, [])), (5, (.ptr 5 0, [])), (16, (.v (.sl (List.map GCell.c e260_.gCells)), [])), (17, (.v (.int .i64 (e260_.gCells.length : Int)), [])), (18, (.v (.int .i64 b261_), []))], [(1, .cells [.sl (List.map GCell.c e260_.gCells), .sl (List.map cI.i64 e260_.gTrail)] []), (5, .cells [.int .i64 c263_.gKind, .str c263_.gName, .int .i64 c263_.gNum, .int .i64 c263_.gTo, .sl (List.map cI.i64 c263_.gKids)] []), (14, .map (mgk p265_) (mgv p265_))], []⟩ ∧ pimpl_HeapOk_J2 k (pimpl_HeapOk_L1 k e260_ m) c263_ e260_ b261_ p265_ = some out1) ?_ ?_
            · refine Wc.seq ?_
              refine Wc.region [] [] [1, 3, 4, 5, 16, 17, 18, 29] [1, 5, 14] [] ⟨[(1, (.ptr 1 0, [])), (3, (.mp 14, [])), (4, (.v (.int .i64 b261_), [])), (5, (.ptr 5 0, [])), (16, (.v (.sl (List.map GCell.c e260_.gCells)), [])), (17, (.v (.int .i64 (e260_.gCells.length : Int)), [])), (18, (.v (.int .i64 b261_), [])), (29, (.v (.bool (c263_.gKind == 1)), []))], [(1, .cells [.sl (List.map GCell.c e260_.gCells), .sl (List.map cI.i64 e260_.gTrail)] []), (5, .cells [.int .i64 c263_.gKind, .str c263_.gName, .int .i64 c263_.gNum, .int .i64 c263_.gTo, .sl (List.map cI.i64 c263_.gKids)] []), (14, .map (mgk p262_) (mgv p262_))], []⟩ _ (by kernel_rfl) .nil ?_
              rcases oif h247 with ⟨h257, h247⟩ | ⟨h257, h247⟩
              · refine Wc.condT h257 (by kernel_rfl) ?_
                refine Wc.seq ?_
                refine Wc.region [{}, {}, {}, { v := some (.int .i64 (mget p262_ c263_.gNum)) }, {}, { c := some [mgk (mset p262_ c263_.gNum (wr.i64 ((mget p262_ c263_.gNum) + 1))), mgv (mset p262_ c263_.gNum (wr.i64 ((mget p262_ c263_.gNum) + 1)))] }] [] [1, 3, 4, 5, 16, 17, 18] [1, 5, 14] [] ⟨[(1, (.ptr 1 0, [])), (3, (.mp 14, [])), (4, (.v (.int .i64 b261_), [])), (5, (.ptr 5 0, [])), (16, (.v (.sl (List.map GCell.c e260_.gCells)), [])), (17, (.v (.int .i64 (e260_.gCells.length : Int)), [])), (18, (.v (.int .i64 b261_), []))], [(1, .cells [.sl (List.map GCell.c e260_.gCells), .sl (List.map cI.i64 e260_.gTrail)] []), (5, .cells [.int .i64 c263_.gKind, .str c263_.gName, .int .i64 c263_.gNum, .int .i64 c263_.gTo, .sl (List.map cI.i64 c263_.gKids)] []), (14, .map (mgk (mset p262_ c263_.gNum (wr.i64 ((mget p262_ c263_.gNum) + 1)))) (mgv (mset p262_ c263_.gNum (wr.i64 ((mget p262_ c263_.gNum) + 1)))))], []⟩ _ (by kernel_rfl) (.cons (mapget_obl p262_ c263_.gNum) (.cons (mapset_obl p262_ c263_.gNum (wr.i64 ((mget p262_ c263_.gNum) + 1))) .nil)) ?_
                refine Wc.seq ?_
                rcases oif h247 with ⟨h258, h247⟩ | ⟨h258, h247⟩
                · refine Wc.region [{}, {}, {}, { v := some (.int .i64 (mget (mset p262_ c263_.gNum (wr.i64 ((mget p262_ c263_.gNum) + 1))) c263_.gNum)) }, {}, { re := some (.bool true) }] [] [1, 3, 5, 16, 17, 18, 57] [1, 5, 14] [] ⟨[(1, (.ptr 1 0, [])), (3, (.mp 14, [])), (5, (.ptr 5 0, [])), (16, (.v (.sl (List.map GCell.c e260_.gCells)), [])), (17, (.v (.int .i64 (e260_.gCells.length : Int)), [])), (18, (.v (.int .i64 b261_), [])), (57, (.v (.bool true), []))], [(1, .cells [.sl (List.map GCell.c e260_.gCells), .sl (List.map cI.i64 e260_.gTrail)] []), (5, .cells [.int .i64 c263_.gKind, .str c263_.gName, .int .i64 c263_.gNum, .int .i64 c263_.gTo, .sl (List.map cI.i64 c263_.gKids)] []), (14, .map (mgk (mset p262_ c263_.gNum (wr.i64 ((mget p262_ c263_.gNum) + 1)))) (mgv (mset p262_ c263_.gNum (wr.i64 ((mget p262_ c263_.gNum) + 1)))))], []⟩ _ (by kernel_rfl) (.cons (mapget_obl (mset p262_ c263_.gNum (wr.i64 ((mget p262_ c263_.gNum) + 1))) c263_.gNum) (.cons (congrArg AV.bool h258) .nil)) ?_
                  refine Wc.condT rfl (by kernel_rfl) ?_
                  refine Wc.seq ?_
                  refine Wc.region [] [] [2] [] [] ⟨[(2, (.v (.bool false), []))], [], []⟩ _ (by kernel_rfl) .nil ?_
                  refine Wc.ret ?_
                  obtain rfl := Option.some.inj h247
                  obtain rfl := Option.some.inj h
                  exact ⟨.inl rfl, by kernel_rfl, by kernel_rfl⟩
                · rcases oif h247 with ⟨h259, h247⟩ | ⟨h259, h247⟩
                  · obtain ⟨i269_, h260, h247⟩ := obind h247
                    rcases oif h247 with ⟨h261, h247⟩ | ⟨h261, h247⟩
                    · refine Wc.region [{}, {}, {}, { v := some (.int .i64 (mget (mset p262_ c263_.gNum (wr.i64 ((mget p262_ c263_.gNum) + 1))) c263_.gNum)) }, {}, { re := some (.bool false) }, {}, {}, {}, { re := some (.bool true) }, {}, {}, {}, { r := some (.v (.bool i269_) []) }, {}, {}, {}, { re := some (.bool true) }] [] [1, 3, 5, 16, 17, 18, 57] [1, 5, 14] [] ⟨[(1, (.ptr 1 0, [])), (3, (.mp 14, [])), (5, (.ptr 5 0, [])), (16, (.v (.sl (List.map GCell.c e260_.gCells)), [])), (17, (.v (.int .i64 (e260_.gCells.length : Int)), [])), (18, (.v (.int .i64 b261_), [])), (57, (.v (.bool true), []))], [(1, .cells [.sl (List.map GCell.c e260_.gCells), .sl (List.map cI.i64 e260_.gTrail)] []), (5, .cells [.int .i64 c263_.gKind, .str c263_.gName, .int .i64 c263_.gNum, .int .i64 c263_.gTo, .sl (List.map cI.i64 c263_.gKids)] []), (14, .map (mgk (mset p262_ c263_.gNum (wr.i64 ((mget p262_ c263_.gNum) + 1)))) (mgv (mset p262_ c263_.gNum (wr.i64 ((mget p262_ c263_.gNum) + 1)))))], []⟩ _ (by kernel_rfl) (.cons (mapget_obl (mset p262_ c263_.gNum (wr.i64 ((mget p262_ c263_.gNum) + 1))) c263_.gNum) (.cons (congrArg AV.bool h258) (.cons (congrArg AV.bool h259) (.cons (cimpl_isCell h260) (.cons (congrArg AV.bool h261) .nil))))) ?_
                      refine Wc.condT rfl (by kernel_rfl) ?_
                      refine Wc.seq ?_
                      refine Wc.region [] [] [2] [] [] ⟨[(2, (.v (.bool false), []))], [], []⟩ _ (by kernel_rfl) .nil ?_
                      refine Wc.ret ?_
                      obtain rfl := Option.some.inj h247
                      obtain rfl := Option.some.inj h
                      exact ⟨.inl rfl, by kernel_rfl, by kernel_rfl⟩
                    · obtain ⟨b270_, h262, h247⟩ := obind h247
                      refine Wc.region [{}, {}, {}, { v := some (.int .i64 (mget (mset p262_ c263_.gNum (wr.i64 ((mget p262_ c263_.gNum) + 1))) c263_.gNum)) }, {}, { re := some (.bool false) }, {}, {}, {}, { re := some (.bool true) }, {}, {}, {}, { r := some (.v (.bool i269_) []) }, {}, {}, {}, { re := some (.bool false) }, {}, {}, { r := some (.v (.int .i64 b270_) []) }] [] [1, 3, 5, 16, 17, 18, 57] [1, 5, 14] [] ⟨[(1, (.ptr 1 0, [])), (3, (.mp 14, [])), (5, (.ptr 5 0, [])), (16, (.v (.sl (List.map GCell.c e260_.gCells)), [])), (17, (.v (.int .i64 (e260_.gCells.length : Int)), [])), (18, (.v (.int .i64 b261_), [])), (57, (.v (.bool (decide (b270_ < 0))), []))], [(1, .cells [.sl (List.map GCell.c e260_.gCells), .sl (List.map cI.i64 e260_.gTrail)] []), (5, .cells [.int .i64 c263_.gKind, .str c263_.gName, .int .i64 c263_.gNum, .int .i64 c263_.gTo, .sl (List.map cI.i64 c263_.gKids)] []), (14, .map (mgk (mset p262_ c263_.gNum (wr.i64 ((mget p262_ c263_.gNum) + 1)))) (mgv (mset p262_ c263_.gNum (wr.i64 ((mget p262_ c263_.gNum) + 1)))))], []⟩ _ (by kernel_rfl) (.cons (mapget_obl (mset p262_ c263_.gNum (wr.i64 ((mget p262_ c263_.gNum) + 1))) c263_.gNum) (.cons (congrArg AV.bool h258) (.cons (congrArg AV.bool h259) (.cons (cimpl_isCell h260) (.cons (congrArg AV.bool h261) (.cons (cimpl_follow h262) .nil)))))) ?_
                      rcases oif h247 with ⟨h263, h247⟩ | ⟨h263, h247⟩
                      · refine Wc.condT h263 (by kernel_rfl) ?_
                        refine Wc.seq ?_
                        refine Wc.region [] [] [2] [] [] ⟨[(2, (.v (.bool false), []))], [], []⟩ _ (by kernel_rfl) .nil ?_
                        refine Wc.ret ?_
                        obtain rfl := Option.some.inj h247
                        obtain rfl := Option.some.inj h
                        exact ⟨.inl rfl, by kernel_rfl, by kernel_rfl⟩
                      · refine Wc.condF h263 (by kernel_rfl) ?_
                        refine Wc.fix (st' := ⟨[(1, (.ptr 1 0, [])), (3, (.mp 14, [])), (5, (.ptr 5 0, [])), (16, (.v (.sl (List.map GCell.c e260_.gCells)), [])), (17, (.v (.int .i64 (e260_.gCells.length : Int)), [])), (18, (.v (.int .i64 b261_), []))], [(1, .cells [.sl (List.map GCell.c e260_.gCells), .sl (List.map cI.i64 e260_.gTrail)] []), (5, .cells [.int .i64 c263_.gKind, .str c263_.gName, .int .i64 c263_.gNum, .int .i64 c263_.gTo, .sl (List.map cI.i64 c263_.gKids)] []), (14, .map (mgk (mset p262_ c263_.gNum (wr.i64 ((mget p262_ c263_.gNum) + 1)))) (mgv (mset p262_ c263_.gNum (wr.i64 ((mget p262_ c263_.gNum) + 1)))))], []⟩) [] [1, 3, 5, 16, 17, 18] [1, 5, 14] [] (by kernel_rfl) ?_
                        refine Wc.skip ?_
                        exact ⟨_, rfl, h247⟩
                  · obtain ⟨b269_, h260, h247⟩ := obind h247
                    refine Wc.region [{}, {}, {}, { v := some (.int .i64 (mget (mset p262_ c263_.gNum (wr.i64 ((mget p262_ c263_.gNum) + 1))) c263_.gNum)) }, {}, { re := some (.bool false) }, {}, {}, {}, { re := some (.bool false) }, {}, {}, {}, {}, {}, {}, {}, {}, {}, {}, { r := some (.v (.int .i64 b269_) []) }] [] [1, 3, 5, 16, 17, 18, 57] [1, 5, 14] [] ⟨[(1, (.ptr 1 0, [])), (3, (.mp 14, [])), (5, (.ptr 5 0, [])), (16, (.v (.sl (List.map GCell.c e260_.gCells)), [])), (17, (.v (.int .i64 (e260_.gCells.length : Int)), [])), (18, (.v (.int .i64 b261_), [])), (57, (.v (.bool (decide (b269_ < 0))), []))], [(1, .cells [.sl (List.map GCell.c e260_.gCells), .sl (List.map cI.i64 e260_.gTrail)] []), (5, .cells [.int .i64 c263_.gKind, .str c263_.gName, .int .i64 c263_.gNum, .int .i64 c263_.gTo, .sl (List.map cI.i64 c263_.gKids)] []), (14, .map (mgk (mset p262_ c263_.gNum (wr.i64 ((mget p262_ c263_.gNum) + 1)))) (mgv (mset p262_ c263_.gNum (wr.i64 ((mget p262_ c263_.gNum) + 1)))))], []⟩ _ (by kernel_rfl) (.cons (mapget_obl (mset p262_ c263_.gNum (wr.i64 ((mget p262_ c263_.gNum) + 1))) c263_.gNum) (.cons (congrArg AV.bool h258) (.cons (congrArg AV.bool h259) (.cons (cimpl_follow h260) .nil)))) ?_
                    rcases oif h247 with ⟨h264, h247⟩ | ⟨h264, h247⟩
                    · refine Wc.condT h264 (by kernel_rfl) ?_
                      refine Wc.seq ?_
                      refine Wc.region [] [] [2] [] [] ⟨[(2, (.v (.bool false), []))], [], []⟩ _ (by kernel_rfl) .nil ?_
                      refine Wc.ret ?_
                      obtain rfl := Option.some.inj h247
                      obtain rfl := Option.some.inj h
                      exact ⟨.inl rfl, by kernel_rfl, by kernel_rfl⟩
                    · refine Wc.condF h264 (by kernel_rfl) ?_
                      refine Wc.fix (st' := ⟨[(1, (.ptr 1 0, [])), (3, (.mp 14, [])), (5, (.ptr 5 0, [])), (16, (.v (.sl (List.map GCell.c e260_.gCells)), [])), (17, (.v (.int .i64 (e260_.gCells.length : Int)), [])), (18, (.v (.int .i64 b261_), []))], [(1, .cells [.sl (List.map GCell.c e260_.gCells), .sl (List.map cI.i64 e260_.gTrail)] []), (5, .cells [.int .i64 c263_.gKind, .str c263_.gName, .int .i64 c263_.gNum, .int .i64 c263_.gTo, .sl (List.map cI.i64 c263_.gKids)] []), (14, .map (mgk (mset p262_ c263_.gNum (wr.i64 ((mget p262_ c263_.gNum) + 1)))) (mgv (mset p262_ c263_.gNum (wr.i64 ((mget p262_ c263_.gNum) + 1)))))], []⟩) [] [1, 3, 5, 16, 17, 18] [1, 5, 14] [] (by kernel_rfl) ?_
                      refine Wc.skip ?_
                      exact ⟨_, rfl, h247⟩
              · refine Wc.condF h257 (by kernel_rfl) ?_
                refine Wc.fix (st' := ⟨[(1, (.ptr 1 0, [])), (3, (.mp 14, [])), (5, (.ptr 5 0, [])), (16, (.v (.sl (List.map GCell.c e260_.gCells)), [])), (17, (.v (.int .i64 (e260_.gCells.length : Int)), [])), (18, (.v (.int .i64 b261_), []))], [(1, .cells [.sl (List.map GCell.c e260_.gCells), .sl (List.map cI.i64 e260_.gTrail)] []), (5, .cells [.int .i64 c263_.gKind, .str c263_.gName, .int .i64 c263_.gNum, .int .i64 c263_.gTo, .sl (List.map cI.i64 c263_.gKids)] []), (14, .map (mgk p262_) (mgv p262_))], []⟩) [] [1, 3, 5, 16, 17, 18] [1, 5, 14] [] (by kernel_rfl) ?_
                refine Wc.skip ?_
                exact ⟨_, rfl, h247⟩
            · rintro st ⟨p265_, rfl, h247⟩
              refine Wc.seq ?_
              refine Wc.region [{}, {}, { v := some (.int .i64 (c263_.gKids.length : Int)) }] [] [1, 3, 16, 17, 18, 59, 60, 61] [1, 14] [] ⟨[(1, (.ptr 1 0, [])), (3, (.mp 14, [])), (16, (.v (.sl (List.map GCell.c e260_.gCells)), [])), (17, (.v (.int .i64 (e260_.gCells.length : Int)), [])), (18, (.v (.int .i64 b261_), [])), (59, (.v (.sl (List.map cI.i64 c263_.gKids)), [])), (60, (.v (.int .i64 (c263_.gKids.length : Int)), [])), (61, (.v (.int .i64 0), []))], [(1, .cells [.sl (List.map GCell.c e260_.gCells), .sl (List.map cI.i64 e260_.gTrail)] []), (14, .map (mgk p265_) (mgv p265_))], []⟩ _ (by kernel_rfl) (.cons (len_obl cI.i64 c263_.gKids) .nil) ?_
              obtain ⟨out3, h252, h247⟩ := obind h247
              refine Wc.lastJ (fun st => out3 = .done () ∧ st = ⟨[(1, (.ptr 1 0, [])), (3, (.mp 14, [])), (16, (.v (.sl (List.map GCell.c e260_.gCells)), [])), (17, (.v (.int .i64 (e260_.gCells.length : Int)), [])), (18, (.v (.int .i64 b261_), []))], [(1, .cells [.sl (List.map GCell.c e260_.gCells), .sl (List.map cI.i64 e260_.gTrail)] []), (14, .map (mgk p265_) (mgv p265_))], []⟩) ?_ ?_
              · refine Wc.block ?_
                refine Wc.loop (fun m st => ∃ (b266_ : Int), st = ⟨[(1, (.ptr 1 0, [])), (3, (.mp 14, [])), (16, (.v (.sl (List.map GCell.c e260_.gCells)), [])), (17, (.v (.int .i64 (e260_.gCells.length : Int)), [])), (18, (.v (.int .i64 b261_), [])), (59, (.v (.sl (List.map cI.i64 c263_.gKids)), [])), (60, (.v (.int .i64 (c263_.gKids.length : Int)), [])), (61, (.v (.int .i64 b266_), []))], [(1, .cells [.sl (List.map GCell.c e260_.gCells), .sl (List.map cI.i64 e260_.gTrail)] []), (14, .map (mgk p265_) (mgv p265_))], []⟩ ∧ pimpl_HeapOk_L3 k c263_ e260_ m b266_ = some out3) ?_ k ⟨_, rfl, h252⟩
                rintro m st ⟨b266_, rfl, h252⟩
                cases m with
                | zero => exact (onone h252).elim
                | succ m =>
                  refine Wc.seq ?_
                  refine Wc.region [] [] [1, 3, 16, 17, 18, 59, 60, 61, 62] [1, 14] [] ⟨[(1, (.ptr 1 0, [])), (3, (.mp 14, [])), (16, (.v (.sl (List.map GCell.c e260_.gCells)), [])), (17, (.v (.int .i64 (e260_.gCells.length : Int)), [])), (18, (.v (.int .i64 b261_), [])), (59, (.v (.sl (List.map cI.i64 c263_.gKids)), [])), (60, (.v (.int .i64 (c263_.gKids.length : Int)), [])), (61, (.v (.int .i64 b266_), [])), (62, (.v (.bool (decide (b266_ < (c263_.gKids.length : Int)))), []))], [(1, .cells [.sl (List.map GCell.c e260_.gCells), .sl (List.map cI.i64 e260_.gTrail)] []), (14, .map (mgk p265_) (mgv p265_))], []⟩ _ (by kernel_rfl) .nil ?_
                  refine Wc.seq ?_
                  rcases oif h252 with ⟨h253, h252⟩ | ⟨h253, h252⟩
                  · refine Wc.condT h253 (by kernel_rfl) ?_
                    refine Wc.fix (st' := ⟨[(1, (.ptr 1 0, [])), (3, (.mp 14, [])), (16, (.v (.sl (List.map GCell.c e260_.gCells)), [])), (17, (.v (.int .i64 (e260_.gCells.length : Int)), [])), (18, (.v (.int .i64 b261_), [])), (59, (.v (.sl (List.map cI.i64 c263_.gKids)), [])), (60, (.v (.int .i64 (c263_.gKids.length : Int)), [])), (61, (.v (.int .i64 b266_), []))], [(1, .cells [.sl (List.map GCell.c e260_.gCells), .sl (List.map cI.i64 e260_.gTrail)] []), (14, .map (mgk p265_) (mgv p265_))], []⟩) [] [1, 3, 16, 17, 18, 59, 60, 61] [1, 14] [] (by kernel_rfl) ?_
                    refine Wc.skip ?_
                    refine Wc.seq ?_
                    refine Wc.block ?_
                    refine Wc.seq ?_
                    obtain ⟨b267_, h254, h252⟩ := obind h252
                    refine Wc.region [{ v := some (.vptr [.int .i64 b267_]) }] [] [1, 3, 7, 16, 17, 18, 59, 60, 61] [1, 14] [] ⟨[(1, (.ptr 1 0, [])), (3, (.mp 14, [])), (7, (.v (.int .i64 b267_), [])), (16, (.v (.sl (List.map GCell.c e260_.gCells)), [])), (17, (.v (.int .i64 (e260_.gCells.length : Int)), [])), (18, (.v (.int .i64 b261_), [])), (59, (.v (.sl (List.map cI.i64 c263_.gKids)), [])), (60, (.v (.int .i64 (c263_.gKids.length : Int)), [])), (61, (.v (.int .i64 b266_), []))], [(1, .cells [.sl (List.map GCell.c e260_.gCells), .sl (List.map cI.i64 e260_.gTrail)] []), (14, .map (mgk p265_) (mgv p265_))], []⟩ _ (by kernel_rfl) (.cons (at_obl (c := cI.i64) rfl cI.i64_len h254) (.cons (len_ok 1 [.int .i64 b267_]) .nil)) ?_
                    refine Wc.seq ?_
                    obtain ⟨i268_, h255, h252⟩ := obind h252
                    refine Wc.region [{}, {}, { r := some (.v (.bool i268_) []) }] [] [1, 3, 16, 17, 18, 59, 60, 61, 68] [1, 14] [] ⟨[(1, (.ptr 1 0, [])), (3, (.mp 14, [])), (16, (.v (.sl (List.map GCell.c e260_.gCells)), [])), (17, (.v (.int .i64 (e260_.gCells.length : Int)), [])), (18, (.v (.int .i64 b261_), [])), (59, (.v (.sl (List.map cI.i64 c263_.gKids)), [])), (60, (.v (.int .i64 (c263_.gKids.length : Int)), [])), (61, (.v (.int .i64 b266_), [])), (68, (.v (.bool (!i268_)), []))], [(1, .cells [.sl (List.map GCell.c e260_.gCells), .sl (List.map cI.i64 e260_.gTrail)] []), (14, .map (mgk p265_) (mgv p265_))], []⟩ _ (by kernel_rfl) (.cons (cimpl_isCell h255) .nil) ?_
                    rcases oif h252 with ⟨h256, h252⟩ | ⟨h256, h252⟩
                    · refine Wc.condT h256 (by kernel_rfl) ?_
                      refine Wc.seq ?_
                      refine Wc.region [] [] [2] [] [] ⟨[(2, (.v (.bool false), []))], [], []⟩ _ (by kernel_rfl) .nil ?_
                      refine Wc.ret ?_
                      obtain rfl := Option.some.inj h252
                      obtain rfl := Option.some.inj h247
                      obtain rfl := Option.some.inj h
                      exact ⟨.inl rfl, by kernel_rfl, by kernel_rfl⟩
                    · refine Wc.condF h256 (by kernel_rfl) ?_
                      refine Wc.fix (st' := ⟨[(1, (.ptr 1 0, [])), (3, (.mp 14, [])), (16, (.v (.sl (List.map GCell.c e260_.gCells)), [])), (17, (.v (.int .i64 (e260_.gCells.length : Int)), [])), (18, (.v (.int .i64 b261_), [])), (59, (.v (.sl (List.map cI.i64 c263_.gKids)), [])), (60, (.v (.int .i64 (c263_.gKids.length : Int)), [])), (61, (.v (.int .i64 b266_), []))], [(1, .cells [.sl (List.map GCell.c e260_.gCells), .sl (List.map cI.i64 e260_.gTrail)] []), (14, .map (mgk p265_) (mgv p265_))], []⟩) [] [1, 3, 16, 17, 18, 59, 60, 61] [1, 14] [] (by kernel_rfl) ?_
                      refine Wc.skip ?_
                      refine Wc.region [] [] [1, 3, 16, 17, 18, 59, 60, 61] [1, 14] [] ⟨[(1, (.ptr 1 0, [])), (3, (.mp 14, [])), (16, (.v (.sl (List.map GCell.c e260_.gCells)), [])), (17, (.v (.int .i64 (e260_.gCells.length : Int)), [])), (18, (.v (.int .i64 b261_), [])), (59, (.v (.sl (List.map cI.i64 c263_.gKids)), [])), (60, (.v (.int .i64 (c263_.gKids.length : Int)), [])), (61, (.v (.int .i64 (wr.i64 (b266_ + 1))), []))], [(1, .cells [.sl (List.map GCell.c e260_.gCells), .sl (List.map cI.i64 e260_.gTrail)] []), (14, .map (mgk p265_) (mgv p265_))], []⟩ _ (by kernel_rfl) .nil ?_
                      exact ⟨_, Nat.lt_succ_self _, _, rfl, h252⟩
                  · refine Wc.condF h253 (by kernel_rfl) ?_
                    refine Wc.fix (st' := ⟨[(1, (.ptr 1 0, [])), (3, (.mp 14, [])), (16, (.v (.sl (List.map GCell.c e260_.gCells)), [])), (17, (.v (.int .i64 (e260_.gCells.length : Int)), [])), (18, (.v (.int .i64 b261_), []))], [(1, .cells [.sl (List.map GCell.c e260_.gCells), .sl (List.map cI.i64 e260_.gTrail)] []), (14, .map (mgk p265_) (mgv p265_))], []⟩) [] [1, 3, 16, 17, 18] [1, 14] [] (by kernel_rfl) ?_
                    refine Wc.exit ?_
                    obtain rfl := Option.some.inj h252
                    exact ⟨rfl, rfl⟩
              · rintro st ⟨rfl, rfl⟩
                refine Wc.region [] [] [1, 3, 16, 17, 18] [1, 14] [] ⟨[(1, (.ptr 1 0, [])), (3, (.mp 14, [])), (16, (.v (.sl (List.map GCell.c e260_.gCells)), [])), (17, (.v (.int .i64 (e260_.gCells.length : Int)), [])), (18, (.v (.int .i64 (wr.i64 (b261_ + 1))), []))], [(1, .cells [.sl (List.map GCell.c e260_.gCells), .sl (List.map cI.i64 e260_.gTrail)] []), (14, .map (mgk p265_) (mgv p265_))], []⟩ _ (by kernel_rfl) .nil ?_
                exact ⟨_, Nat.lt_succ_self _, _, _, rfl, h247⟩
        · refine Wc.condF h248 (by kernel_rfl) ?_
          refine Wc.fix (st' := ⟨[(1, (.ptr 1 0, []))], [(1, .cells [.sl (List.map GCell.c e260_.gCells), .sl (List.map cI.i64 e260_.gTrail)] [])], []⟩) [] [1] [1] [] (by kernel_rfl) ?_
          refine Wc.exit ?_
          obtain rfl := Option.some.inj h247
          exact ⟨rfl, rfl⟩
    · rintro st ⟨rfl, rfl⟩
      refine Wc.seq ?_
      refine Wc.seq ?_
      refine Wc.region [{}, {}, { v := some (.int .i64 (e260_.gTrail.length : Int)) }] [] [1, 72, 73, 74] [1] [] ⟨[(1, (.ptr 1 0, [])), (72, (.v (.sl (List.map cI.i64 e260_.gTrail)), [])), (73, (.v (.int .i64 (e260_.gTrail.length : Int)), [])), (74, (.v (.int .i64 0), []))], [(1, .cells [.sl (List.map GCell.c e260_.gCells), .sl (List.map cI.i64 e260_.gTrail)] [])], []⟩ _ (by kernel_rfl) (.cons (len_obl cI.i64 e260_.gTrail) .nil) ?_
      obtain ⟨out4, h265, h⟩ := obind h
      refine Wc.lastJ (fun st => out4 = .done () ∧ st = ⟨[], [], []⟩) ?_ ?_
      · refine Wc.block ?_
        refine Wc.loop (fun m st => ∃ (b271_ : Int), st = ⟨[(1, (.ptr 1 0, [])), (72, (.v (.sl (List.map cI.i64 e260_.gTrail)), [])), (73, (.v (.int .i64 (e260_.gTrail.length : Int)), [])), (74, (.v (.int .i64 b271_), []))], [(1, .cells [.sl (List.map GCell.c e260_.gCells), .sl (List.map cI.i64 e260_.gTrail)] [])], []⟩ ∧ pimpl_HeapOk_L4 k e260_ m b271_ = some out4) ?_ k ⟨_, rfl, h265⟩
        rintro m st ⟨b271_, rfl, h265⟩
        cases m with
        | zero => exact (onone h265).elim
        | succ m =>
          refine Wc.seq ?_
          refine Wc.region [] [] [1, 72, 73, 74, 75] [1] [] ⟨[(1, (.ptr 1 0, [])), (72, (.v (.sl (List.map cI.i64 e260_.gTrail)), [])), (73, (.v (.int .i64 (e260_.gTrail.length : Int)), [])), (74, (.v (.int .i64 b271_), [])), (75, (.v (.bool (decide (b271_ < (e260_.gTrail.length : Int)))), []))], [(1, .cells [.sl (List.map GCell.c e260_.gCells), .sl (List.map cI.i64 e260_.gTrail)] [])], []⟩ _ (by kernel_rfl) .nil ?_
          refine Wc.seq ?_
          rcases oif h265 with ⟨h266, h265⟩ | ⟨h266, h265⟩
          · refine Wc.condT h266 (by kernel_rfl) ?_
            refine Wc.fix (st' := ⟨[(1, (.ptr 1 0, [])), (72, (.v (.sl (List.map cI.i64 e260_.gTrail)), [])), (73, (.v (.int .i64 (e260_.gTrail.length : Int)), [])), (74, (.v (.int .i64 b271_), []))], [(1, .cells [.sl (List.map GCell.c e260_.gCells), .sl (List.map cI.i64 e260_.gTrail)] [])], []⟩) [] [1, 72, 73, 74] [1] [] (by kernel_rfl) ?_
            refine Wc.skip ?_
            refine Wc.seq ?_
            refine Wc.block ?_
            refine Wc.seq ?_
            obtain ⟨b272_, h267, h265⟩ := obind h265
            refine Wc.region [{ v := some (.vptr [.int .i64 b272_]) }] [] [1, 9, 72, 73, 74] [1] [] ⟨[(1, (.ptr 1 0, [])), (9, (.v (.int .i64 b272_), [])), (72, (.v (.sl (List.map cI.i64 e260_.gTrail)), [])), (73, (.v (.int .i64 (e260_.gTrail.length : Int)), [])), (74, (.v (.int .i64 b271_), []))], [(1, .cells [.sl (List.map GCell.c e260_.gCells), .sl (List.map cI.i64 e260_.gTrail)] [])], []⟩ _ (by kernel_rfl) (.cons (at_obl (c := cI.i64) rfl cI.i64_len h267) (.cons (len_ok 1 [.int .i64 b272_]) .nil)) ?_
            refine Wc.seq ?_
            obtain ⟨i273_, h268, h265⟩ := obind h265
            rcases oif h265 with ⟨h269, h265⟩ | ⟨h269, h265⟩
            · refine Wc.region [{}, {}, { r := some (.v (.bool i273_) []) }, {}, { re := some (.bool true) }] [] [1, 72, 73, 74, 90] [1] [] ⟨[(1, (.ptr 1 0, [])), (72, (.v (.sl (List.map cI.i64 e260_.gTrail)), [])), (73, (.v (.int .i64 (e260_.gTrail.length : Int)), [])), (74, (.v (.int .i64 b271_), [])), (90, (.v (.bool true), []))], [(1, .cells [.sl (List.map GCell.c e260_.gCells), .sl (List.map cI.i64 e260_.gTrail)] [])], []⟩ _ (by kernel_rfl) (.cons (cimpl_isCell h268) (.cons (congrArg AV.bool h269) .nil)) ?_
              refine Wc.condT rfl (by kernel_rfl) ?_
              refine Wc.seq ?_
              refine Wc.region [] [] [2] [] [] ⟨[(2, (.v (.bool false), []))], [], []⟩ _ (by kernel_rfl) .nil ?_
              refine Wc.ret ?_
              obtain rfl := Option.some.inj h265
              obtain rfl := Option.some.inj h
              exact ⟨.inl rfl, by kernel_rfl, by kernel_rfl⟩
            · obtain ⟨c274_, h270, h265⟩ := obind h265
              refine Wc.region [{}, {}, { r := some (.v (.bool i273_) []) }, {}, { re := some (.bool false) }, {}, {}, {}, { v := some (.vptr [.int .i64 c274_.gKind, .str c274_.gName, .int .i64 c274_.gNum, .int .i64 c274_.gTo, .sl (List.map cI.i64 c274_.gKids)]) }] [] [1, 72, 73, 74, 90] [1] [] ⟨[(1, (.ptr 1 0, [])), (72, (.v (.sl (List.map cI.i64 e260_.gTrail)), [])), (73, (.v (.int .i64 (e260_.gTrail.length : Int)), [])), (74, (.v (.int .i64 b271_), [])), (90, (.v (.bool (c274_.gKind != 1)), []))], [(1, .cells [.sl (List.map GCell.c e260_.gCells), .sl (List.map cI.i64 e260_.gTrail)] [])], []⟩ _ (by kernel_rfl) (.cons (cimpl_isCell h268) (.cons (congrArg AV.bool h269) (.cons (at_obl (c := GCell.c) (GCell.c_eq c274_) GCell.c_len h270) (.cons (len_ok 1 [.int .i64 c274_.gKind, .str c274_.gName, .int .i64 c274_.gNum, .int .i64 c274_.gTo, .sl (List.map cI.i64 c274_.gKids)]) .nil)))) ?_
              rcases oif h265 with ⟨h271, h265⟩ | ⟨h271, h265⟩
              · refine Wc.condT h271 (by kernel_rfl) ?_
                refine Wc.seq ?_
                refine Wc.region [] [] [2] [] [] ⟨[(2, (.v (.bool false), []))], [], []⟩ _ (by kernel_rfl) .nil ?_
                refine Wc.ret ?_
                obtain rfl := Option.some.inj h265
                obtain rfl := Option.some.inj h
                exact ⟨.inl rfl, by kernel_rfl, by kernel_rfl⟩
              · refine Wc.condF h271 (by kernel_rfl) ?_
                refine Wc.fix (st' := ⟨[(1, (.ptr 1 0, [])), (72, (.v (.sl (List.map cI.i64 e260_.gTrail)), [])), (73, (.v (.int .i64 (e260_.gTrail.length : Int)), [])), (74, (.v (.int .i64 b271_), []))], [(1, .cells [.sl (List.map GCell.c e260_.gCells), .sl (List.map cI.i64 e260_.gTrail)] [])], []⟩) [] [1, 72, 73, 74] [1] [] (by kernel_rfl) ?_
                refine Wc.skip ?_
                refine Wc.region [] [] [1, 72, 73, 74] [1] [] ⟨[(1, (.ptr 1 0, [])), (72, (.v (.sl (List.map cI.i64 e260_.gTrail)), [])), (73, (.v (.int .i64 (e260_.gTrail.length : Int)), [])), (74, (.v (.int .i64 (wr.i64 (b271_ + 1))), []))], [(1, .cells [.sl (List.map GCell.c e260_.gCells), .sl (List.map cI.i64 e260_.gTrail)] [])], []⟩ _ (by kernel_rfl) .nil ?_
                exact ⟨_, Nat.lt_succ_self _, _, rfl, h265⟩
          · refine Wc.condF h266 (by kernel_rfl) ?_
            refine Wc.fix (st' := ⟨[], [], []⟩) [] [] [] [] (by kernel_rfl) ?_
            refine Wc.exit ?_
            obtain rfl := Option.some.inj h265
            exact ⟨rfl, rfl⟩
      · rintro st ⟨rfl, rfl⟩
        refine Wc.seq ?_
        refine Wc.region [] [] [2] [] [] ⟨[(2, (.v (.bool true), []))], [], []⟩ _ (by kernel_rfl) .nil ?_
        refine Wc.ret ?_
        obtain rfl := Option.some.inj h
        exact ⟨.inl rfl, by kernel_rfl, by kernel_rfl⟩

def pimpl_copyHeap_d_L1 (k : Nat) (e283_ : GHeap) : Nat → Int → GHeap → Option (Out GHeap GHeap)
  | 0, _, _ => none
  | m + 1, b284_, e285_ =>
    if (decide (b284_ < (e283_.gCells.length : Int))) = true then
      (at' e283_.gCells b284_).bind fun c287_ =>
      if ([] : List Int).length + c287_.gKids.length ≤ 1073741824 then
        if e285_.gCells.length + [c287_].length ≤ 1073741824 then
          pimpl_copyHeap_d_L1 k e283_ m (wr.i64 (b284_ + 1)) (GHeap.mk (e285_.gCells ++ [c287_]) e285_.gTrail)
        else none
      else none
    else
      some (.done e285_)
/-- impl.copyHeap -/
def pimpl_copyHeap_d (k : Nat) (e283_ : GHeap) : Option GHeap :=
  if ([] : List Int).length + e283_.gTrail.length ≤ 1073741824 then
    (pimpl_copyHeap_d_L1 k e283_ k 0 (GHeap.mk [] e283_.gTrail)).bind fun out1 => match out1 with
    | .ret r => some r
    | .done e286_ =>
      some e286_
  else none
theorem cimpl_copyHeap_d {k : Nat} {e283_ : GHeap} {r : GHeap} (h : pimpl_copyHeap_d k e283_ = some r) : FnO Try.prog 79 [.v (.agg [.sl (List.map GCell.c e283_.gCells), .sl (List.map cI.i64 e283_.gTrail)]) []] (.v (.agg [.slx, .slx]) [(0, .ex 110 true (List.map GCell.c r.gCells)), (1, .ex 3 true (List.map cI.i64 r.gTrail))]) [] := by
  refine FnO.of Try.func79 (rfl : Try.f79.body = some _) (Nat.le_of_ble_eq_true (by kernel_rfl)) (Nat.le_of_ble_eq_true (by kernel_rfl)) ?_
  intro w0 X0 Fin pv0 pb
  unfold pimpl_copyHeap_d at h
  refine Wc.seq ?_
  refine Wc.region [] [] [1, 2] [1, 2] [] ⟨[(1, (.ptr 1 0, [])), (2, (.ptr 2 0, []))], [(1, .cells [.sl (List.map GCell.c e283_.gCells), .sl (List.map cI.i64 e283_.gTrail)] []), (2, .cells [.sl (List.map GCell.c []), .sl (List.map cI.i64 [])] [(0, .app 110), (1, .app 3)])], []⟩ _ (by kernel_rfl) .nil ?_
  refine Wc.seq ?_
  obtain ⟨h278, h⟩ := oguard h
  refine Wc.region [{}, {}, { c := some (List.map cI.i64 e283_.gTrail), md := 2 }, { tk := [8] }, {}, { tk := [9] }] [] [1, 2, 3] [1, 2, 3] [] ⟨[(1, (.ptr 1 0, [])), (2, (.ptr 2 0, [])), (3, (.ptr 3 0, []))], [(1, .cells [.sl (List.map GCell.c e283_.gCells), .sl (List.map cI.i64 e283_.gTrail)] []), (2, .cells [.sl (List.map GCell.c []), .sl (List.map cI.i64 [])] [(0, .app 110), (1, .app 3)]), (3, .cells [.sl (List.map GCell.c []), .slx] [(0, .app 110), (1, .ex 3 true (List.map cI.i64 e283_.gTrail))])], []⟩ _ (by kernel_rfl) (.cons (app_re0 cI.i64 e283_.gTrail) (.cons (app_scal (c := cI.i64) (ys := e283_.gTrail) cI.i64_scal) (.cons (app_obl2 (c := cI.i64) (xs := []) (ys := e283_.gTrail) cI.i64_len h278) .nil))) ?_
  refine Wc.seq ?_
  refine Wc.seq ?_
  refine Wc.region [{}, {}, { v := some (.int .i64 (e283_.gCells.length : Int)) }] [] [2, 3, 11, 12, 13] [2, 3] [] ⟨[(2, (.ptr 2 0, [])), (3, (.ptr 3 0, [])), (11, (.v (.sl (List.map GCell.c e283_.gCells)), [])), (12, (.v (.int .i64 (e283_.gCells.length : Int)), [])), (13, (.v (.int .i64 0), []))], [(2, .cells [.sl (List.map GCell.c []), .sl (List.map cI.i64 [])] [(0, .app 110), (1, .app 3)]), (3, .cells [.sl (List.map GCell.c []), .slx] [(0, .app 110), (1, .ex 3 true (List.map cI.i64 e283_.gTrail))])], []⟩ _ (by kernel_rfl) (.cons (len_obl GCell.c e283_.gCells) .nil) ?_
  obtain ⟨out1, h279, h⟩ := obind h
  refine Wc.lastJ (fun st => ∃ (e286_ : GHeap), out1 = .done e286_ ∧ st = ⟨[(2, (.ptr 2 0, [])), (3, (.ptr 3 0, []))], [(2, .cells [.slx, .slx] [(0, .ex 110 true (List.map GCell.c [])), (1, .ex 3 true (List.map cI.i64 []))]), (3, .cells [.slx, .slx] [(0, .ex 110 true (List.map GCell.c e286_.gCells)), (1, .ex 3 true (List.map cI.i64 e286_.gTrail))])], []⟩) ?_ ?_
  · refine Wc.block ?_
    refine Wc.fix (st' := ⟨[(2, (.ptr 2 0, [])), (3, (.ptr 3 0, [])), (11, (.v (.sl (List.map GCell.c e283_.gCells)), [])), (12, (.v (.int .i64 (e283_.gCells.length : Int)), [])), (13, (.v (.int .i64 0), []))], [(2, .cells [.slx, .slx] [(0, .ex 110 true (List.map GCell.c [])), (1, .ex 3 true (List.map cI.i64 []))]), (3, .cells [.slx, .slx] [(0, .ex 110 true (List.map GCell.c [])), (1, .ex 3 true (List.map cI.i64 e283_.gTrail))])], []⟩) [.ow (.b 2 0) true, .ow (.b 2 1) true, .ow (.b 3 0) true] [2, 3, 11, 12, 13] [2, 3] [] (by kernel_rfl) ?_
    refine Wc.loop (fun m st => ∃ (b284_ : Int) (e285_ : GHeap), st = ⟨[(2, (.ptr 2 0, [])), (3, (.ptr 3 0, [])), (11, (.v (.sl (List.map GCell.c e283_.gCells)), [])), (12, (.v (.int .i64 (e283_.gCells.length : Int)), [])), (13, (.v (.int .i64 b284_), []))], [(2, .cells [.slx, .slx] [(0, .ex 110 true (List.map GCell.c [])), (1, .ex 3 true (List.map cI.i64 []))]), (3, .cells [.slx, .slx] [(0, .ex 110 true (List.map GCell.c e285_.gCells)), (1, .ex 3 true (List.map cI.i64 e285_.gTrail))])], []⟩ ∧ pimpl_copyHeap_d_L1 k e283_ m b284_ e285_ = some out1) ?_ k ⟨_, _, rfl, h279⟩
    rintro m st ⟨b284_, e285_, rfl, h279⟩
    cases m with
    | zero => exact (onone h279).elim
    | succ m =>
      refine Wc.seq ?_
      refine Wc.region [] [] [2, 3, 11, 12, 13, 14] [2, 3] [] ⟨[(2, (.ptr 2 0, [])), (3, (.ptr 3 0, [])), (11, (.v (.sl (List.map GCell.c e283_.gCells)), [])), (12, (.v (.int .i64 (e283_.gCells.length : Int)), [])), (13, (.v (.int .i64 b284_), [])), (14, (.v (.bool (decide (b284_ < (e283_.gCells.length : Int)))), []))], [(2, .cells [.slx, .slx] [(0, .ex 110 true (List.map GCell.c [])), (1, .ex 3 true (List.map cI.i64 []))]), (3, .cells [.slx, .slx] [(0, .ex 110 true (List.map GCell.c e285_.gCells)), (1, .ex 3 true (List.map cI.i64 e285_.gTrail))])], []⟩ _ (by kernel_rfl) .nil ?_
      refine Wc.seq ?_
      rcases oif h279 with ⟨h280, h279⟩ | ⟨h280, h279⟩
      · refine Wc.condT h280 (by kernel_rfl) ?_
        refine Wc.fix (st' := ⟨[(2, (.ptr 2 0, [])), (3, (.ptr 3 0, [])), (11, (.v (.sl (List.map GCell.c e283_.gCells)), [])), (12, (.v (.int .i64 (e283_.gCells.length : Int)), [])), (13, (.v (.int .i64 b284_), []))], [(2, .cells [.slx, .slx] [(0, .ex 110 true (List.map GCell.c [])), (1, .ex 3 true (List.map cI.i64 []))]), (3, .cells [.slx, .slx] [(0, .ex 110 true (List.map GCell.c e285_.gCells)), (1, .ex 3 true (List.map cI.i64 e285_.gTrail))])], []⟩) [] [2, 3, 11, 12, 13] [2, 3] [] (by kernel_rfl) ?_
        refine Wc.skip ?_
        refine Wc.seq ?_
        refine Wc.block ?_
        refine Wc.seq ?_
        obtain ⟨c287_, h281, h279⟩ := obind h279
        refine Wc.region [{ v := some (.vptr [.int .i64 c287_.gKind, .str c287_.gName, .int .i64 c287_.gNum, .int .i64 c287_.gTo, .sl (List.map cI.i64 c287_.gKids)]) }] [] [2, 3, 5, 11, 12, 13] [2, 3, 5] [] ⟨[(2, (.ptr 2 0, [])), (3, (.ptr 3 0, [])), (5, (.ptr 5 0, [])), (11, (.v (.sl (List.map GCell.c e283_.gCells)), [])), (12, (.v (.int .i64 (e283_.gCells.length : Int)), [])), (13, (.v (.int .i64 b284_), []))], [(2, .cells [.slx, .slx] [(0, .ex 110 true (List.map GCell.c [])), (1, .ex 3 true (List.map cI.i64 []))]), (3, .cells [.slx, .slx] [(0, .ex 110 true (List.map GCell.c e285_.gCells)), (1, .ex 3 true (List.map cI.i64 e285_.gTrail))]), (5, .cells [.int .i64 c287_.gKind, .str c287_.gName, .int .i64 c287_.gNum, .int .i64 c287_.gTo, .sl (List.map cI.i64 c287_.gKids)] [])], []⟩ _ (by kernel_rfl) (.cons (at_obl (c := GCell.c) (GCell.c_eq c287_) GCell.c_len h281) (.cons (len_ok 5 [.int .i64 c287_.gKind, .str c287_.gName, .int .i64 c287_.gNum, .int .i64 c287_.gTo, .sl (List.map cI.i64 c287_.gKids)]) .nil)) ?_
        refine Wc.seq ?_
        obtain ⟨h282, h279⟩ := oguard h279
        refine Wc.region [{}, {}, { c := some (List.map cI.i64 c287_.gKids), md := 2 }, {}, { tk := [19] }] [] [2, 3, 5, 11, 12, 13] [2, 3, 5] [] ⟨[(2, (.ptr 2 0, [])), (3, (.ptr 3 0, [])), (5, (.ptr 5 0, [])), (11, (.v (.sl (List.map GCell.c e283_.gCells)), [])), (12, (.v (.int .i64 (e283_.gCells.length : Int)), [])), (13, (.v (.int .i64 b284_), []))], [(2, .cells [.slx, .slx] [(0, .ex 110 true (List.map GCell.c [])), (1, .ex 3 true (List.map cI.i64 []))]), (3, .cells [.slx, .slx] [(0, .ex 110 true (List.map GCell.c e285_.gCells)), (1, .ex 3 true (List.map cI.i64 e285_.gTrail))]), (5, .cells [.int .i64 c287_.gKind, .str c287_.gName, .int .i64 c287_.gNum, .int .i64 c287_.gTo, .slx] [(4, .ex 3 true (List.map cI.i64 c287_.gKids))])], []⟩ _ (by kernel_rfl) (.cons (app_re0 cI.i64 c287_.gKids) (.cons (app_scal (c := cI.i64) (ys := c287_.gKids) cI.i64_scal) (.cons (app_obl2 (c := cI.i64) (xs := []) (ys := c287_.gKids) cI.i64_len h282) .nil))) ?_
        obtain ⟨h283, h279⟩ := oguard h279
        refine Wc.region [{}, { md := 1 }, { md := 1 }, { c := some (List.map GCell.c [c287_]), tk := [23], md := 2 }, { c := some (List.map GCell.c (e285_.gCells ++ [c287_])), tk := [22, 24], md := 2 }, {}, { tk := [25] }] [.so 3] [2, 3, 11, 12, 13] [2, 3] [] ⟨[(2, (.ptr 2 0, [])), (3, (.ptr 3 0, [])), (11, (.v (.sl (List.map GCell.c e283_.gCells)), [])), (12, (.v (.int .i64 (e283_.gCells.length : Int)), [])), (13, (.v (.int .i64 b284_), []))], [(2, .cells [.slx, .slx] [(0, .ex 110 true (List.map GCell.c [])), (1, .ex 3 true (List.map cI.i64 []))]), (3, .cells [.slx, .slx] [(0, .ex 110 true (List.map GCell.c (e285_.gCells ++ [c287_]))), (1, .ex 3 true (List.map cI.i64 e285_.gTrail))])], []⟩ _ (by kernel_rfl) (.cons (cl_cons (c := GCell.c) (x := c287_) (GCell.c_eq c287_) (cl_nil GCell.c)) (.cons (app_re2 GCell.c e285_.gCells [c287_]) (.cons (app_obl2 (c := GCell.c) (xs := e285_.gCells) (ys := [c287_]) GCell.c_len h283) .nil))) ?_
        refine Wc.region [] [] [2, 3, 11, 12, 13] [2, 3] [] ⟨[(2, (.ptr 2 0, [])), (3, (.ptr 3 0, [])), (11, (.v (.sl (List.map GCell.c e283_.gCells)), [])), (12, (.v (.int .i64 (e283_.gCells.length : Int)), [])), (13, (.v (.int .i64 (wr.i64 (b284_ + 1))), []))], [(2, .cells [.slx, .slx] [(0, .ex 110 true (List.map GCell.c [])), (1, .ex 3 true (List.map cI.i64 []))]), (3, .cells [.slx, .slx] [(0, .ex 110 true (List.map GCell.c (e285_.gCells ++ [c287_]))), (1, .ex 3 true (List.map cI.i64 e285_.gTrail))])], []⟩ _ (by kernel_rfl) .nil ?_
        exact ⟨_, Nat.lt_succ_self _, _, _, rfl, h279⟩
      · refine Wc.condF h280 (by kernel_rfl) ?_
        refine Wc.fix (st' := ⟨[(2, (.ptr 2 0, [])), (3, (.ptr 3 0, []))], [(2, .cells [.slx, .slx] [(0, .ex 110 true (List.map GCell.c [])), (1, .ex 3 true (List.map cI.i64 []))]), (3, .cells [.slx, .slx] [(0, .ex 110 true (List.map GCell.c e285_.gCells)), (1, .ex 3 true (List.map cI.i64 e285_.gTrail))])], []⟩) [] [2, 3] [2, 3] [] (by kernel_rfl) ?_
        refine Wc.exit ?_
        obtain rfl := Option.some.inj h279
        exact ⟨_, rfl, rfl⟩
  · rintro st ⟨e286_, rfl, rfl⟩
    refine Wc.seq ?_
    refine Wc.region [{ md := 1 }, { tk := [28] }] [] [2] [2] [] ⟨[(2, (.ptr 2 0, []))], [(2, .cells [.slx, .slx] [(0, .ex 110 true (List.map GCell.c e286_.gCells)), (1, .ex 3 true (List.map cI.i64 e286_.gTrail))])], []⟩ _ (by kernel_rfl) .nil ?_
    refine Wc.ret ?_
    obtain rfl := Option.some.inj h
    exact ⟨.inl rfl, by kernel_rfl, by kernel_rfl⟩

def pimpl_UndoTo_L1 (k : Nat) (e278_ : GHeap) (b277_ : Int) : Nat → Int → GHeap → Option (Out GHeap GHeap)
  | 0, _, _ => none
  | m + 1, b280_, e281_ =>
    if (decide (b280_ < (((((List.map cI.i64 e278_.gTrail).length : Int)).toNat - ((if (e278_.gTrail.length : Int) < (if 0 > b277_ then 0 else b277_) then (e278_.gTrail.length : Int) else (if 0 > b277_ then 0 else b277_))).toNat : Nat) : Int))) = true then
      if 0 ≤ b280_ ∧ (b280_).toNat < (((List.map cI.i64 e278_.gTrail).length : Int)).toNat - ((if (e278_.gTrail.length : Int) < (if 0 > b277_ then 0 else b277_) then (e278_.gTrail.length : Int) else (if 0 > b277_ then 0 else b277_))).toNat then
        ((e281_.gTrail)[((if (e278_.gTrail.length : Int) < (if 0 > b277_ then 0 else b277_) then (e278_.gTrail.length : Int) else (if 0 > b277_ then 0 else b277_))).toNat + (b280_).toNat]?).bind fun b283_ =>
        (at' e281_.gCells b283_).bind fun c284_ =>
        pimpl_UndoTo_L1 k e278_ b277_ m (wr.i64 (b280_ + 1)) (GHeap.mk (e281_.gCells.set ((b283_).toNat) (GCell.mk c284_.gKind c284_.gName c284_.gNum (-1) c284_.gKids)) e281_.gTrail)
      else none
    else
      some (.done e281_)
/-- impl.UndoTo -/
def pimpl_UndoTo (k : Nat) (e275_ : GHeap) (b276_ : Int) (b277_ : Int) : Option GHeap :=
  (pimpl_copyHeap_d k e275_).bind fun e278_ =>
  (pimpl_HeapOk k e275_).bind fun i279_ =>
  if (!i279_) = true then
    some e278_
  else
    if 0 ≤ (if (e278_.gTrail.length : Int) < (if 0 > b277_ then 0 else b277_) then (e278_.gTrail.length : Int) else (if 0 > b277_ then 0 else b277_)) ∧ (if (e278_.gTrail.length : Int) < (if 0 > b277_ then 0 else b277_) then (e278_.gTrail.length : Int) else (if 0 > b277_ then 0 else b277_)) ≤ (e278_.gTrail.length : Int) ∧ (e278_.gTrail.length : Int) ≤ (e278_.gTrail.length : Int) then
      (pimpl_UndoTo_L1 k e278_ b277_ k 0 e278_).bind fun out1 => match out1 with
      | .ret r => some r
      | .done e282_ =>
        if 0 ≤ (if (e282_.gTrail.length : Int) < (if 0 > b277_ then 0 else b277_) then (e282_.gTrail.length : Int) else (if 0 > b277_ then 0 else b277_)) ∧ (if (e282_.gTrail.length : Int) < (if 0 > b277_ then 0 else b277_) then (e282_.gTrail.length : Int) else (if 0 > b277_ then 0 else b277_)) ≤ (e282_.gTrail.length : Int) then
          if 0 ≤ (if (e282_.gCells.length : Int) < (if 0 > b276_ then 0 else b276_) then (e282_.gCells.length : Int) else (if 0 > b276_ then 0 else b276_)) ∧ (if (e282_.gCells.length : Int) < (if 0 > b276_ then 0 else b276_) then (e282_.gCells.length : Int) else (if 0 > b276_ then 0 else b276_)) ≤ (e282_.gCells.length : Int) then
            some (GHeap.mk (e282_.gCells.take ((if (e282_.gCells.length : Int) < (if 0 > b276_ then 0 else b276_) then (e282_.gCells.length : Int) else (if 0 > b276_ then 0 else b276_))).toNat) (e282_.gTrail.take ((if (e282_.gTrail.length : Int) < (if 0 > b277_ then 0 else b277_) then (e282_.gTrail.length : Int) else (if 0 > b277_ then 0 else b277_))).toNat))
          else none
        else none
    else none
set_option maxHeartbeats 4000000 in
theorem cimpl_UndoTo {k : Nat} {e275_ : GHeap} {b276_ : Int} {b277_ : Int} {r : GHeap} (h : pimpl_UndoTo k e275_ b276_ b277_ = some r) : FnO Try.prog 44 [.v (.agg [.sl (List.map GCell.c e275_.gCells), .sl (List.map cI.i64 e275_.gTrail)]) [], .v (.int .i64 b276_) [], .v (.int .i64 b277_) []] (.v (.agg [.sl (List.map GCell.c r.gCells), .sl (List.map cI.i64 r.gTrail)]) []) [] := by
  refine FnO.of Try.func44 (rfl : Try.f44.body = some _) (Nat.le_of_ble_eq_true (by kernel_rfl)) (Nat.le_of_ble_eq_true (by kernel_rfl)) ?_
  intro w0 X0 Fin pv0 pb
  unfold pimpl_UndoTo at h
  refine Wc.seq ?_
  refine Wc.region [] [] [1, 2, 3, 6] [3, 6] [] ⟨[(1, (.v (.int .i64 b276_), [])), (2, (.v (.int .i64 b277_), [])), (3, (.ptr 3 0, [])), (6, (.ptr 6 0, []))], [(3, .cells [.sl (List.map GCell.c e275_.gCells), .sl (List.map cI.i64 e275_.gTrail)] []), (6, .cells [.sl (List.map GCell.c []), .sl (List.map cI.i64 [])] [(0, .app 110), (1, .app 3)])], []⟩ _ (by kernel_rfl) .nil ?_
  refine Wc.seq ?_
  obtain ⟨e278_, h272, h⟩ := obind h
  refine Wc.region [{}, { r := some (.v (.agg [.slx, .slx]) [(0, .ex 110 true (List.map GCell.c e278_.gCells)), (1, .ex 3 true (List.map cI.i64 e278_.gTrail))]) }, {}, { tk := [11] }] [] [1, 2, 3, 6, 7] [3, 6, 7] [] ⟨[(1, (.v (.int .i64 b276_), [])), (2, (.v (.int .i64 b277_), [])), (3, (.ptr 3 0, [])), (6, (.ptr 6 0, [])), (7, (.ptr 7 0, []))], [(3, .cells [.sl (List.map GCell.c e275_.gCells), .sl (List.map cI.i64 e275_.gTrail)] []), (6, .cells [.sl (List.map GCell.c []), .sl (List.map cI.i64 [])] [(0, .app 110), (1, .app 3)]), (7, .cells [.slx, .slx] [(0, .ex 110 true (List.map GCell.c e278_.gCells)), (1, .ex 3 true (List.map cI.i64 e278_.gTrail))])], []⟩ _ (by kernel_rfl) (.cons (cimpl_copyHeap_d h272) .nil) ?_
  refine Wc.seq ?_
  refine Wc.seq ?_
  obtain ⟨i279_, h273, h⟩ := obind h
  refine Wc.region [{}, { r := some (.v (.bool i279_) []) }] [] [1, 2, 6, 7, 14] [6, 7] [] ⟨[(1, (.v (.int .i64 b276_), [])), (2, (.v (.int .i64 b277_), [])), (6, (.ptr 6 0, [])), (7, (.ptr 7 0, [])), (14, (.v (.bool (!i279_)), []))], [(6, .cells [.sl (List.map GCell.c []), .sl (List.map cI.i64 [])] [(0, .app 110), (1, .app 3)]), (7, .cells [.slx, .slx] [(0, .ex 110 true (List.map GCell.c e278_.gCells)), (1, .ex 3 true (List.map cI.i64 e278_.gTrail))])], []⟩ _ (by kernel_rfl) (.cons (cimpl_HeapOk h273) .nil) ?_
  rcases oif h with ⟨h274, h⟩ | ⟨h274, h⟩
  · refine Wc.condT h274 (by kernel_rfl) ?_
    refine Wc.seq ?_
    refine Wc.region [{ md := 1 }, { tk := [15] }] [] [6] [6] [] ⟨[(6, (.ptr 6 0, []))], [(6, .cells [.slx, .slx] [(0, .ex 110 true (List.map GCell.c e278_.gCells)), (1, .ex 3 true (List.map cI.i64 e278_.gTrail))])], []⟩ _ (by kernel_rfl) .nil ?_
    refine Wc.fix (st' := ⟨[(6, (.ptr 6 0, []))], [(6, .cells [.sl (List.map GCell.c e278_.gCells), .sl (List.map cI.i64 e278_.gTrail)] [])], []⟩) [.sh (.b 6 0), .sh (.b 6 1)] [6] [6] [] (by kernel_rfl) ?_
    refine Wc.ret ?_
    obtain rfl := Option.some.inj h
    exact ⟨.inl rfl, by kernel_rfl, by kernel_rfl⟩
  · refine Wc.condF h274 (by kernel_rfl) ?_
    refine Wc.fix (st' := ⟨[(1, (.v (.int .i64 b276_), [])), (2, (.v (.int .i64 b277_), [])), (6, (.ptr 6 0, [])), (7, (.ptr 7 0, []))], [(6, .cells [.sl (List.map GCell.c []), .sl (List.map cI.i64 [])] [(0, .app 110), (1, .app 3)]), (7, .cells [.slx, .slx] [(0, .ex 110 true (List.map GCell.c e278_.gCells)), (1, .ex 3 true (List.map cI.i64 e278_.gTrail))])], []⟩) [] [1, 2, 6, 7] [6, 7] [] (by kernel_rfl) ?_
    refine Wc.skip ?_
    refine Wc.seq ?_
    refine Wc.seq ?_
    obtain ⟨h275, h⟩ := oguard h
    refine Wc.region [{}, {}, {}, {}, {}, {}, { v := some (.int .i64 (e278_.gTrail.length : Int)) }] [] [1, 2, 6, 7, 24, 25, 26] [6, 7] [] ⟨[(1, (.v (.int .i64 b276_), [])), (2, (.v (.int .i64 b277_), [])), (6, (.ptr 6 0, [])), (7, (.ptr 7 0, [])), (24, (.v (.slx), [(0, .sb (.b 7 1) [] (((if (e278_.gTrail.length : Int) < (if 0 > b277_ then 0 else b277_) then (e278_.gTrail.length : Int) else (if 0 > b277_ then 0 else b277_))).toNat) 1 ((((List.map cI.i64 e278_.gTrail).length : Int)).toNat - ((if (e278_.gTrail.length : Int) < (if 0 > b277_ then 0 else b277_) then (e278_.gTrail.length : Int) else (if 0 > b277_ then 0 else b277_))).toNat))])), (25, (.v (.int .i64 (((((List.map cI.i64 e278_.gTrail).length : Int)).toNat - ((if (e278_.gTrail.length : Int) < (if 0 > b277_ then 0 else b277_) then (e278_.gTrail.length : Int) else (if 0 > b277_ then 0 else b277_))).toNat : Nat) : Int)), [])), (26, (.v (.int .i64 0), []))], [(6, .cells [.sl (List.map GCell.c []), .sl (List.map cI.i64 [])] [(0, .app 110), (1, .app 3)]), (7, .cells [.slx, .slx] [(0, .ex 110 true (List.map GCell.c e278_.gCells)), (1, .ex 3 true (List.map cI.i64 e278_.gTrail))])], []⟩ _ (by kernel_rfl) (.cons (len_obl cI.i64 e278_.gTrail) (.cons (part_obl1 (c := cI.i64) h275) .nil)) ?_
    obtain ⟨out1, h276, h⟩ := obind h
    refine Wc.lastJ (fun st => ∃ (e282_ : GHeap), out1 = .done e282_ ∧ st = ⟨[(1, (.v (.int .i64 b276_), [])), (2, (.v (.int .i64 b277_), [])), (6, (.ptr 6 0, [])), (7, (.ptr 7 0, []))], [(6, .cells [.sl (List.map GCell.c []), .sl (List.map cI.i64 [])] [(0, .app 110), (1, .app 3)]), (7, .cells [.slx, .slx] [(0, .ex 110 true (List.map GCell.c e282_.gCells)), (1, .ex 3 true (List.map cI.i64 e282_.gTrail))])], []⟩) ?_ ?_
    · refine Wc.block ?_
      refine Wc.loop (fun m st => ∃ (b280_ : Int) (e281_ : GHeap), st = ⟨[(1, (.v (.int .i64 b276_), [])), (2, (.v (.int .i64 b277_), [])), (6, (.ptr 6 0, [])), (7, (.ptr 7 0, [])), (24, (.v (.slx), [(0, .sb (.b 7 1) [] (((if (e278_.gTrail.length : Int) < (if 0 > b277_ then 0 else b277_) then (e278_.gTrail.length : Int) else (if 0 > b277_ then 0 else b277_))).toNat) 1 ((((List.map cI.i64 e278_.gTrail).length : Int)).toNat - ((if (e278_.gTrail.length : Int) < (if 0 > b277_ then 0 else b277_) then (e278_.gTrail.length : Int) else (if 0 > b277_ then 0 else b277_))).toNat))])), (25, (.v (.int .i64 (((((List.map cI.i64 e278_.gTrail).length : Int)).toNat - ((if (e278_.gTrail.length : Int) < (if 0 > b277_ then 0 else b277_) then (e278_.gTrail.length : Int) else (if 0 > b277_ then 0 else b277_))).toNat : Nat) : Int)), [])), (26, (.v (.int .i64 b280_), []))], [(6, .cells [.sl (List.map GCell.c []), .sl (List.map cI.i64 [])] [(0, .app 110), (1, .app 3)]), (7, .cells [.slx, .slx] [(0, .ex 110 true (List.map GCell.c e281_.gCells)), (1, .ex 3 true (List.map cI.i64 e281_.gTrail))])], []⟩ ∧ pimpl_UndoTo_L1 k e278_ b277_ m b280_ e281_ = some out1) ?_ k ⟨_, _, rfl, h276⟩
      rintro m st ⟨b280_, e281_, rfl, h276⟩
      cases m with
      | zero => exact (onone h276).elim
      | succ m =>
        refine Wc.seq ?_
        refine Wc.region [] [] [1, 2, 6, 7, 24, 25, 26, 27] [6, 7] [] ⟨[(1, (.v (.int .i64 b276_), [])), (2, (.v (.int .i64 b277_), [])), (6, (.ptr 6 0, [])), (7, (.ptr 7 0, [])), (24, (.v (.slx), [(0, .sb (.b 7 1) [] (((if (e278_.gTrail.length : Int) < (if 0 > b277_ then 0 else b277_) then (e278_.gTrail.length : Int) else (if 0 > b277_ then 0 else b277_))).toNat) 1 ((((List.map cI.i64 e278_.gTrail).length : Int)).toNat - ((if (e278_.gTrail.length : Int) < (if 0 > b277_ then 0 else b277_) then (e278_.gTrail.length : Int) else (if 0 > b277_ then 0 else b277_))).toNat))])), (25, (.v (.int .i64 (((((List.map cI.i64 e278_.gTrail).length : Int)).toNat - ((if (e278_.gTrail.length : Int) < (if 0 > b277_ then 0 else b277_) then (e278_.gTrail.length : Int) else (if 0 > b277_ then 0 else b277_))).toNat : Nat) : Int)), [])), (26, (.v (.int .i64 b280_), [])), (27, (.v (.bool (decide (b280_ < (((((List.map cI.i64 e278_.gTrail).length : Int)).toNat - ((if (e278_.gTrail.length : Int) < (if 0 > b277_ then 0 else b277_) then (e278_.gTrail.length : Int) else (if 0 > b277_ then 0 else b277_))).toNat : Nat) : Int)))), []))], [(6, .cells [.sl (List.map GCell.c []), .sl (List.map cI.i64 [])] [(0, .app 110), (1, .app 3)]), (7, .cells [.slx, .slx] [(0, .ex 110 true (List.map GCell.c e281_.gCells)), (1, .ex 3 true (List.map cI.i64 e281_.gTrail))])], []⟩ _ (by kernel_rfl) .nil ?_
        refine Wc.seq ?_
        rcases oif h276 with ⟨h277, h276⟩ | ⟨h277, h276⟩
        · refine Wc.condT h277 (by kernel_rfl) ?_
          refine Wc.fix (st' := ⟨[(1, (.v (.int .i64 b276_), [])), (2, (.v (.int .i64 b277_), [])), (6, (.ptr 6 0, [])), (7, (.ptr 7 0, [])), (24, (.v (.slx), [(0, .sb (.b 7 1) [] (((if (e278_.gTrail.length : Int) < (if 0 > b277_ then 0 else b277_) then (e278_.gTrail.length : Int) else (if 0 > b277_ then 0 else b277_))).toNat) 1 ((((List.map cI.i64 e278_.gTrail).length : Int)).toNat - ((if (e278_.gTrail.length : Int) < (if 0 > b277_ then 0 else b277_) then (e278_.gTrail.length : Int) else (if 0 > b277_ then 0 else b277_))).toNat))])), (25, (.v (.int .i64 (((((List.map cI.i64 e278_.gTrail).length : Int)).toNat - ((if (e278_.gTrail.length : Int) < (if 0 > b277_ then 0 else b277_) then (e278_.gTrail.length : Int) else (if 0 > b277_ then 0 else b277_))).toNat : Nat) : Int)), [])), (26, (.v (.int .i64 b280_), []))], [(6, .cells [.sl (List.map GCell.c []), .sl (List.map cI.i64 [])] [(0, .app 110), (1, .app 3)]), (7, .cells [.slx, .slx] [(0, .ex 110 true (List.map GCell.c e281_.gCells)), (1, .ex 3 true (List.map cI.i64 e281_.gTrail))])], []⟩) [] [1, 2, 6, 7, 24, 25, 26] [6, 7] [] (by kernel_rfl) ?_
          refine Wc.skip ?_
          refine Wc.seq ?_
          refine Wc.block ?_
          refine Wc.seq ?_
          obtain ⟨h278, h276⟩ := oguard h276
          obtain ⟨b283_, h279, h276⟩ := obind h276
          refine Wc.region [{}, { v := some (.int .i64 b283_) }] [] [1, 2, 6, 7, 9, 24, 25, 26] [6, 7] [] ⟨[(1, (.v (.int .i64 b276_), [])), (2, (.v (.int .i64 b277_), [])), (6, (.ptr 6 0, [])), (7, (.ptr 7 0, [])), (9, (.v (.int .i64 b283_), [])), (24, (.v (.slx), [(0, .sb (.b 7 1) [] (((if (e278_.gTrail.length : Int) < (if 0 > b277_ then 0 else b277_) then (e278_.gTrail.length : Int) else (if 0 > b277_ then 0 else b277_))).toNat) 1 ((((List.map cI.i64 e278_.gTrail).length : Int)).toNat - ((if (e278_.gTrail.length : Int) < (if 0 > b277_ then 0 else b277_) then (e278_.gTrail.length : Int) else (if 0 > b277_ then 0 else b277_))).toNat))])), (25, (.v (.int .i64 (((((List.map cI.i64 e278_.gTrail).length : Int)).toNat - ((if (e278_.gTrail.length : Int) < (if 0 > b277_ then 0 else b277_) then (e278_.gTrail.length : Int) else (if 0 > b277_ then 0 else b277_))).toNat : Nat) : Int)), [])), (26, (.v (.int .i64 b280_), []))], [(6, .cells [.sl (List.map GCell.c []), .sl (List.map cI.i64 [])] [(0, .app 110), (1, .app 3)]), (7, .cells [.slx, .slx] [(0, .ex 110 true (List.map GCell.c e281_.gCells)), (1, .ex 3 true (List.map cI.i64 e281_.gTrail))])], []⟩ _ (by kernel_rfl) (.cons h278 (.cons (el_oblD (sz := 1) (off := 0) (s := 1) (ag := false) (v := .int .i64 b283_) (c := cI.i64) rfl h279 rfl (Nat.le_of_ble_eq_true rfl) rfl) .nil)) ?_
          obtain ⟨c284_, h280, h276⟩ := obind h276
          refine Wc.region [{}, {}, {}, {}, {}, { c := some (List.map GCell.c (e281_.gCells.set ((b283_).toNat) (GCell.mk c284_.gKind c284_.gName c284_.gNum (-1) c284_.gKids))) }] [] [1, 2, 6, 7, 24, 25, 26] [6, 7] [] ⟨[(1, (.v (.int .i64 b276_), [])), (2, (.v (.int .i64 b277_), [])), (6, (.ptr 6 0, [])), (7, (.ptr 7 0, [])), (24, (.v (.slx), [(0, .sb (.b 7 1) [] (((if (e278_.gTrail.length : Int) < (if 0 > b277_ then 0 else b277_) then (e278_.gTrail.length : Int) else (if 0 > b277_ then 0 else b277_))).toNat) 1 ((((List.map cI.i64 e278_.gTrail).length : Int)).toNat - ((if (e278_.gTrail.length : Int) < (if 0 > b277_ then 0 else b277_) then (e278_.gTrail.length : Int) else (if 0 > b277_ then 0 else b277_))).toNat))])), (25, (.v (.int .i64 (((((List.map cI.i64 e278_.gTrail).length : Int)).toNat - ((if (e278_.gTrail.length : Int) < (if 0 > b277_ then 0 else b277_) then (e278_.gTrail.length : Int) else (if 0 > b277_ then 0 else b277_))).toNat : Nat) : Int)), [])), (26, (.v (.int .i64 b280_), []))], [(6, .cells [.sl (List.map GCell.c []), .sl (List.map cI.i64 [])] [(0, .app 110), (1, .app 3)]), (7, .cells [.slx, .slx] [(0, .ex 110 true (List.map GCell.c (e281_.gCells.set ((b283_).toNat) (GCell.mk c284_.gKind c284_.gName c284_.gNum (-1) c284_.gKids)))), (1, .ex 3 true (List.map cI.i64 e281_.gTrail))])], []⟩ _ (by kernel_rfl) (.cons (ix_obl (c := GCell.c) GCell.c_len h280) (.cons (mod_obl (off := 3) (new := [.int .i64 (-1)]) (c := GCell.c) (GCell.c_eq c284_) (GCell.c_eq (GCell.mk c284_.gKind c284_.gName c284_.gNum (-1) c284_.gKids)) (at'_spec h280).2 rfl) (.cons (st_obl (sz := 5) (off := 3) (s := 1) (c := GCell.c) (GCell.c_eq c284_) (at'_spec h280).2 rfl (Nat.le_of_ble_eq_true rfl)) .nil))) ?_
          refine Wc.region [] [] [1, 2, 6, 7, 24, 25, 26] [6, 7] [] ⟨[(1, (.v (.int .i64 b276_), [])), (2, (.v (.int .i64 b277_), [])), (6, (.ptr 6 0, [])), (7, (.ptr 7 0, [])), (24, (.v (.slx), [(0, .sb (.b 7 1) [] (((if (e278_.gTrail.length : Int) < (if 0 > b277_ then 0 else b277_) then (e278_.gTrail.length : Int) else (if 0 > b277_ then 0 else b277_))).toNat) 1 ((((List.map cI.i64 e278_.gTrail).length : Int)).toNat - ((if (e278_.gTrail.length : Int) < (if 0 > b277_ then 0 else b277_) then (e278_.gTrail.length : Int) else (if 0 > b277_ then 0 else b277_))).toNat))])), (25, (.v (.int .i64 (((((List.map cI.i64 e278_.gTrail).length : Int)).toNat - ((if (e278_.gTrail.length : Int) < (if 0 > b277_ then 0 else b277_) then (e278_.gTrail.length : Int) else (if 0 > b277_ then 0 else b277_))).toNat : Nat) : Int)), [])), (26, (.v (.int .i64 (wr.i64 (b280_ + 1))), []))], [(6, .cells [.sl (List.map GCell.c []), .sl (List.map cI.i64 [])] [(0, .app 110), (1, .app 3)]), (7, .cells [.slx, .slx] [(0, .ex 110 true (List.map GCell.c (e281_.gCells.set ((b283_).toNat) (GCell.mk c284_.gKind c284_.gName c284_.gNum (-1) c284_.gKids)))), (1, .ex 3 true (List.map cI.i64 e281_.gTrail))])], []⟩ _ (by kernel_rfl) .nil ?_
          exact ⟨_, Nat.lt_succ_self _, _, _, rfl, h276⟩
        · refine Wc.condF h277 (by kernel_rfl) ?_
          refine Wc.fix (st' := ⟨[(1, (.v (.int .i64 b276_), [])), (2, (.v (.int .i64 b277_), [])), (6, (.ptr 6 0, [])), (7, (.ptr 7 0, []))], [(6, .cells [.sl (List.map GCell.c []), .sl (List.map cI.i64 [])] [(0, .app 110), (1, .app 3)]), (7, .cells [.slx, .slx] [(0, .ex 110 true (List.map GCell.c e281_.gCells)), (1, .ex 3 true (List.map cI.i64 e281_.gTrail))])], []⟩) [] [1, 2, 6, 7] [6, 7] [] (by kernel_rfl) ?_
          refine Wc.exit ?_
          obtain rfl := Option.some.inj h276
          exact ⟨_, rfl, rfl⟩
    · rintro st ⟨e282_, rfl, rfl⟩
      refine Wc.seq ?_
      obtain ⟨h281, h⟩ := oguard h
      refine Wc.region [{}, {}, {}, {}, {}, {}, { v := some (.int .i64 (e282_.gTrail.length : Int)) }, {}, { c := some (List.map cI.i64 (e282_.gTrail.take ((if (e282_.gTrail.length : Int) < (if 0 > b277_ then 0 else b277_) then (e282_.gTrail.length : Int) else (if 0 > b277_ then 0 else b277_))).toNat)), tk := [37], fx := [.pl 37] }, {}, { tk := [44] }] [] [1, 6, 7] [6, 7] [] ⟨[(1, (.v (.int .i64 b276_), [])), (6, (.ptr 6 0, [])), (7, (.ptr 7 0, []))], [(6, .cells [.sl (List.map GCell.c []), .sl (List.map cI.i64 [])] [(0, .app 110), (1, .app 3)]), (7, .cells [.slx, .slx] [(0, .ex 110 true (List.map GCell.c e282_.gCells)), (1, .ex 3 true (List.map cI.i64 (e282_.gTrail.take ((if (e282_.gTrail.length : Int) < (if 0 > b277_ then 0 else b277_) then (e282_.gTrail.length : Int) else (if 0 > b277_ then 0 else b277_))).toNat)))])], []⟩ _ (by kernel_rfl) (.cons (len_obl cI.i64 e282_.gTrail) (.cons (take_re cI.i64 e282_.gTrail (if (e282_.gTrail.length : Int) < (if 0 > b277_ then 0 else b277_) then (e282_.gTrail.length : Int) else (if 0 > b277_ then 0 else b277_))) (.cons (take_obl (c := cI.i64) h281) .nil))) ?_
      refine Wc.seq ?_
      obtain ⟨h282, h⟩ := oguard h
      refine Wc.region [{}, {}, {}, {}, {}, {}, { v := some (.int .i64 (e282_.gCells.length : Int)) }, {}, { c := some (List.map GCell.c (e282_.gCells.take ((if (e282_.gCells.length : Int) < (if 0 > b276_ then 0 else b276_) then (e282_.gCells.length : Int) else (if 0 > b276_ then 0 else b276_))).toNat)), tk := [47], fx := [.pl 47] }, {}, { tk := [54] }] [.so 7] [6, 7] [6, 7] [] ⟨[(6, (.ptr 6 0, [])), (7, (.ptr 7 0, []))], [(6, .cells [.sl (List.map GCell.c []), .sl (List.map cI.i64 [])] [(0, .app 110), (1, .app 3)]), (7, .cells [.slx, .slx] [(0, .ex 110 true (List.map GCell.c (e282_.gCells.take ((if (e282_.gCells.length : Int) < (if 0 > b276_ then 0 else b276_) then (e282_.gCells.length : Int) else (if 0 > b276_ then 0 else b276_))).toNat))), (1, .ex 3 true (List.map cI.i64 (e282_.gTrail.take ((if (e282_.gTrail.length : Int) < (if 0 > b277_ then 0 else b277_) then (e282_.gTrail.length : Int) else (if 0 > b277_ then 0 else b277_))).toNat)))])], []⟩ _ (by kernel_rfl) (.cons (len_obl GCell.c e282_.gCells) (.cons (take_re GCell.c e282_.gCells (if (e282_.gCells.length : Int) < (if 0 > b276_ then 0 else b276_) then (e282_.gCells.length : Int) else (if 0 > b276_ then 0 else b276_))) (.cons (take_obl (c := GCell.c) h282) .nil))) ?_
      refine Wc.seq ?_
      refine Wc.region [{ md := 1 }, { tk := [56] }] [] [6] [6] [] ⟨[(6, (.ptr 6 0, []))], [(6, .cells [.slx, .slx] [(0, .ex 110 true (List.map GCell.c (e282_.gCells.take ((if (e282_.gCells.length : Int) < (if 0 > b276_ then 0 else b276_) then (e282_.gCells.length : Int) else (if 0 > b276_ then 0 else b276_))).toNat))), (1, .ex 3 true (List.map cI.i64 (e282_.gTrail.take ((if (e282_.gTrail.length : Int) < (if 0 > b277_ then 0 else b277_) then (e282_.gTrail.length : Int) else (if 0 > b277_ then 0 else b277_))).toNat)))])], []⟩ _ (by kernel_rfl) .nil ?_
      refine Wc.fix (st' := ⟨[(6, (.ptr 6 0, []))], [(6, .cells [.sl (List.map GCell.c (e282_.gCells.take ((if (e282_.gCells.length : Int) < (if 0 > b276_ then 0 else b276_) then (e282_.gCells.length : Int) else (if 0 > b276_ then 0 else b276_))).toNat)), .sl (List.map cI.i64 (e282_.gTrail.take ((if (e282_.gTrail.length : Int) < (if 0 > b277_ then 0 else b277_) then (e282_.gTrail.length : Int) else (if 0 > b277_ then 0 else b277_))).toNat))] [])], []⟩) [.sh (.b 6 0), .sh (.b 6 1)] [6] [6] [] (by kernel_rfl) ?_
      refine Wc.ret ?_
      obtain rfl := Option.some.inj h
      exact ⟨.inl rfl, by kernel_rfl, by kernel_rfl⟩

def plaws_toIntS_d_L1 (k : Nat) (a292_ : List Int) : Nat → (List Int) → Int → Option (Out (List Int) (List Int))
  | 0, _, _ => none
  | m + 1, a293_, b294_ =>
    if (decide (b294_ < (a292_.length : Int))) = true then
      (at' a292_ b294_).bind fun b296_ =>
      (at' a293_ b294_).bind fun b297_ =>
      plaws_toIntS_d_L1 k a292_ m (a293_.set ((b294_).toNat) b296_) (wr.i64 (b294_ + 1))
    else
      some (.done a293_)
/-- laws.toIntS -/
def plaws_toIntS_d (k : Nat) (a292_ : List Int) : Option (List Int) :=
  if 0 ≤ (a292_.length : Int) ∧ (a292_.length : Int) ≤ 1073741824 then
    (plaws_toIntS_d_L1 k a292_ k (List.replicate ((a292_.length : Int)).toNat 0) 0).bind fun out1 => match out1 with
    | .ret r => some r
    | .done a295_ =>
      some a295_
  else none
theorem claws_toIntS_d {k : Nat} {a292_ : List Int} {r : (List Int)} (h : plaws_toIntS_d k a292_ = some r) : FnO Try.prog 30 [.v (.sl (List.map cI.i64 a292_)) []] (.v (.slx) [(0, .ex 3 true (List.map cI.i64 r))]) [] := by
  refine FnO.of Try.func30 (rfl : Try.f30.body = some _) (Nat.le_of_ble_eq_true (by kernel_rfl)) (Nat.le_of_ble_eq_true (by kernel_rfl)) ?_
  intro w0 X0 Fin pv0 pb
  unfold plaws_toIntS_d at h
  refine Wc.seq ?_
  refine Wc.region [] [] [0] [] [] ⟨[(0, (.v (.sl (List.map cI.i64 a292_)), []))], [], []⟩ _ (by kernel_rfl) .nil ?_
  refine Wc.seq ?_
  obtain ⟨h288, h⟩ := oguard h
  refine Wc.region [{}, { v := some (.int .i64 (a292_.length : Int)) }, { c := some (List.map cI.i64 (List.replicate ((a292_.length : Int)).toNat 0)) }, { tk := [7] }] [] [0, 3] [] [] ⟨[(0, (.v (.sl (List.map cI.i64 a292_)), [])), (3, (.v (.slx), [(0, .ex 3 true (List.map cI.i64 (List.replicate ((a292_.length : Int)).toNat 0)))]))], [], []⟩ _ (by kernel_rfl) (.cons (len_obl cI.i64 a292_) (.cons (rep_re (c := cI.i64) (z := 0) rfl ((a292_.length : Int)).toNat) (.cons (ms_obl h288) .nil))) ?_
  refine Wc.seq ?_
  refine Wc.seq ?_
  refine Wc.region [] [] [0, 3, 4] [] [] ⟨[(0, (.v (.sl (List.map cI.i64 a292_)), [])), (3, (.v (.slx), [(0, .ex 3 true (List.map cI.i64 (List.replicate ((a292_.length : Int)).toNat 0)))])), (4, (.v (.int .i64 0), []))], [], []⟩ _ (by kernel_rfl) .nil ?_
  obtain ⟨out1, h289, h⟩ := obind h
  refine Wc.lastJ (fun st => ∃ (a295_ : List Int), out1 = .done a295_ ∧ st = ⟨[(3, (.v (.slx), [(0, .ex 3 true (List.map cI.i64 a295_))]))], [], []⟩) ?_ ?_
  · refine Wc.block ?_
    refine Wc.loop (fun m st => ∃ (a293_ : List Int) (b294_ : Int), st = ⟨[(0, (.v (.sl (List.map cI.i64 a292_)), [])), (3, (.v (.slx), [(0, .ex 3 true (List.map cI.i64 a293_))])), (4, (.v (.int .i64 b294_), []))], [], []⟩ ∧ plaws_toIntS_d_L1 k a292_ m a293_ b294_ = some out1) ?_ k ⟨_, _, rfl, h289⟩
    rintro m st ⟨a293_, b294_, rfl, h289⟩
    cases m with
    | zero => exact (onone h289).elim
    | succ m =>
      refine Wc.seq ?_
      refine Wc.seq ?_
      refine Wc.region [{}, {}, { v := some (.int .i64 (a292_.length : Int)) }] [] [0, 3, 4, 11] [] [] ⟨[(0, (.v (.sl (List.map cI.i64 a292_)), [])), (3, (.v (.slx), [(0, .ex 3 true (List.map cI.i64 a293_))])), (4, (.v (.int .i64 b294_), [])), (11, (.v (.bool (decide (b294_ < (a292_.length : Int)))), []))], [], []⟩ _ (by kernel_rfl) (.cons (len_obl cI.i64 a292_) .nil) ?_
      rcases oif h289 with ⟨h290, h289⟩ | ⟨h290, h289⟩
      · refine Wc.condT h290 (by kernel_rfl) ?_
        refine Wc.fix (st' := ⟨[(0, (.v (.sl (List.map cI.i64 a292_)), [])), (3, (.v (.slx), [(0, .ex 3 true (List.map cI.i64 a293_))])), (4, (.v (.int .i64 b294_), []))], [], []⟩) [] [0, 3, 4] [] [] (by kernel_rfl) ?_
        refine Wc.skip ?_
        refine Wc.seq ?_
        refine Wc.block ?_
        obtain ⟨b296_, h291, h289⟩ := obind h289
        obtain ⟨b297_, h292, h289⟩ := obind h289
        refine Wc.region [{}, {}, {}, {}, { v := some (.vptr [.int .i64 b296_]) }, {}, {}, { c := some (List.map cI.i64 (a293_.set ((b294_).toNat) b296_)) }] [] [0, 3, 4] [] [] ⟨[(0, (.v (.sl (List.map cI.i64 a292_)), [])), (3, (.v (.slx), [(0, .ex 3 true (List.map cI.i64 (a293_.set ((b294_).toNat) b296_)))])), (4, (.v (.int .i64 b294_), []))], [], []⟩ _ (by kernel_rfl) (.cons (at_obl (c := cI.i64) rfl cI.i64_len h291) (.cons (len_ok 1 [.int .i64 b296_]) (.cons (ix_obl (c := cI.i64) cI.i64_len h292) (.cons (mod_obl (off := 0) (new := [.int .i64 b296_]) (c := cI.i64) rfl rfl (at'_spec h292).2 rfl) (.cons (st_obl (sz := 1) (off := 0) (s := 1) (c := cI.i64) rfl (at'_spec h292).2 rfl (Nat.le_of_ble_eq_true rfl)) .nil))))) ?_
        refine Wc.region [] [] [0, 3, 4] [] [] ⟨[(0, (.v (.sl (List.map cI.i64 a292_)), [])), (3, (.v (.slx), [(0, .ex 3 true (List.map cI.i64 (a293_.set ((b294_).toNat) b296_)))])), (4, (.v (.int .i64 (wr.i64 (b294_ + 1))), []))], [], []⟩ _ (by kernel_rfl) .nil ?_
        exact ⟨_, Nat.lt_succ_self _, _, _, rfl, h289⟩
      · refine Wc.condF h290 (by kernel_rfl) ?_
        refine Wc.fix (st' := ⟨[(3, (.v (.slx), [(0, .ex 3 true (List.map cI.i64 a293_))]))], [], []⟩) [] [3] [] [] (by kernel_rfl) ?_
        refine Wc.exit ?_
        obtain rfl := Option.some.inj h289
        exact ⟨_, rfl, rfl⟩
  · rintro st ⟨a295_, rfl, rfl⟩
    refine Wc.seq ?_
    refine Wc.region [{ tk := [3] }, { tk := [21] }] [] [2] [] [] ⟨[(2, (.v (.slx), [(0, .ex 3 true (List.map cI.i64 a295_))]))], [], []⟩ _ (by kernel_rfl) .nil ?_
    refine Wc.ret ?_
    obtain rfl := Option.some.inj h
    exact ⟨.inl rfl, by kernel_rfl, by kernel_rfl⟩

/-- laws.toCell -/
def plaws_toCell_d (k : Nat) (c290_ : GCell) : Option GCell :=
  (plaws_toIntS_d k c290_.gKids).bind fun f291_ =>
  some (GCell.mk c290_.gKind c290_.gName c290_.gNum c290_.gTo f291_)
theorem claws_toCell_d {k : Nat} {c290_ : GCell} {r : GCell} (h : plaws_toCell_d k c290_ = some r) : FnO Try.prog 119 [.v (.agg [.int .i64 c290_.gKind, .str c290_.gName, .int .i64 c290_.gNum, .int .i64 c290_.gTo, .sl (List.map cI.i64 c290_.gKids)]) []] (.v (.agg [.int .i64 r.gKind, .str r.gName, .int .i64 r.gNum, .int .i64 r.gTo, .slx]) [(4, .ex 3 true (List.map cI.i64 r.gKids))]) [] := by
  refine FnO.of Try.func119 (rfl : Try.f119.body = some _) (Nat.le_of_ble_eq_true (by kernel_rfl)) (Nat.le_of_ble_eq_true (by kernel_rfl)) ?_
  intro w0 X0 Fin pv0 pb
  unfold plaws_toCell_d at h
  refine Wc.seq ?_
  refine Wc.region [] [] [1, 2] [1, 2] [] ⟨[(1, (.ptr 1 0, [])), (2, (.ptr 2 0, []))], [(1, .cells [.int .i64 c290_.gKind, .str c290_.gName, .int .i64 c290_.gNum, .int .i64 c290_.gTo, .sl (List.map cI.i64 c290_.gKids)] []), (2, .cells [.int .i64 0, .str (bs []), .int .i64 0, .int .i64 0, .sl (List.map cI.i64 [])] [(4, .app 3)])], []⟩ _ (by kernel_rfl) .nil ?_
  refine Wc.seq ?_
  refine Wc.region [] [] [1, 2, 3] [1, 2, 3] [] ⟨[(1, (.ptr 1 0, [])), (2, (.ptr 2 0, [])), (3, (.ptr 3 0, []))], [(1, .cells [.int .i64 c290_.gKind, .str c290_.gName, .int .i64 c290_.gNum, .int .i64 c290_.gTo, .sl (List.map cI.i64 c290_.gKids)] []), (2, .cells [.int .i64 0, .str (bs []), .int .i64 0, .int .i64 0, .sl (List.map cI.i64 [])] [(4, .app 3)]), (3, .cells [.int .i64 0, .str (bs []), .int .i64 0, .int .i64 0, .sl (List.map cI.i64 [])] [(4, .app 3)])], []⟩ _ (by kernel_rfl) .nil ?_
  refine Wc.seq ?_
  refine Wc.region [] [] [1, 2, 3] [1, 2, 3] [] ⟨[(1, (.ptr 1 0, [])), (2, (.ptr 2 0, [])), (3, (.ptr 3 0, []))], [(1, .cells [.int .i64 c290_.gKind, .str c290_.gName, .int .i64 c290_.gNum, .int .i64 c290_.gTo, .sl (List.map cI.i64 c290_.gKids)] []), (2, .cells [.int .i64 0, .str (bs []), .int .i64 0, .int .i64 0, .sl (List.map cI.i64 [])] [(4, .app 3)]), (3, .cells [.int .i64 c290_.gKind, .str (bs []), .int .i64 0, .int .i64 0, .sl (List.map cI.i64 [])] [(4, .app 3)])], []⟩ _ (by kernel_rfl) .nil ?_
  refine Wc.seq ?_
  refine Wc.region [] [] [1, 2, 3] [1, 2, 3] [] ⟨[(1, (.ptr 1 0, [])), (2, (.ptr 2 0, [])), (3, (.ptr 3 0, []))], [(1, .cells [.int .i64 c290_.gKind, .str c290_.gName, .int .i64 c290_.gNum, .int .i64 c290_.gTo, .sl (List.map cI.i64 c290_.gKids)] []), (2, .cells [.int .i64 0, .str (bs []), .int .i64 0, .int .i64 0, .sl (List.map cI.i64 [])] [(4, .app 3)]), (3, .cells [.int .i64 c290_.gKind, .str c290_.gName, .int .i64 0, .int .i64 0, .sl (List.map cI.i64 [])] [(4, .app 3)])], []⟩ _ (by kernel_rfl) .nil ?_
  refine Wc.seq ?_
  refine Wc.region [] [] [1, 2, 3] [1, 2, 3] [] ⟨[(1, (.ptr 1 0, [])), (2, (.ptr 2 0, [])), (3, (.ptr 3 0, []))], [(1, .cells [.int .i64 c290_.gKind, .str c290_.gName, .int .i64 c290_.gNum, .int .i64 c290_.gTo, .sl (List.map cI.i64 c290_.gKids)] []), (2, .cells [.int .i64 0, .str (bs []), .int .i64 0, .int .i64 0, .sl (List.map cI.i64 [])] [(4, .app 3)]), (3, .cells [.int .i64 c290_.gKind, .str c290_.gName, .int .i64 c290_.gNum, .int .i64 0, .sl (List.map cI.i64 [])] [(4, .app 3)])], []⟩ _ (by kernel_rfl) .nil ?_
  refine Wc.seq ?_
  refine Wc.region [] [] [1, 2, 3] [1, 2, 3] [] ⟨[(1, (.ptr 1 0, [])), (2, (.ptr 2 0, [])), (3, (.ptr 3 0, []))], [(1, .cells [.int .i64 c290_.gKind, .str c290_.gName, .int .i64 c290_.gNum, .int .i64 c290_.gTo, .sl (List.map cI.i64 c290_.gKids)] []), (2, .cells [.int .i64 0, .str (bs []), .int .i64 0, .int .i64 0, .sl (List.map cI.i64 [])] [(4, .app 3)]), (3, .cells [.int .i64 c290_.gKind, .str c290_.gName, .int .i64 c290_.gNum, .int .i64 c290_.gTo, .sl (List.map cI.i64 [])] [(4, .app 3)])], []⟩ _ (by kernel_rfl) .nil ?_
  refine Wc.seq ?_
  obtain ⟨f291_, h287, h⟩ := obind h
  refine Wc.region [{}, {}, { r := some (.v (.slx) [(0, .ex 3 true (List.map cI.i64 f291_))]) }, {}, { tk := [18] }] [] [2, 3] [2, 3] [] ⟨[(2, (.ptr 2 0, [])), (3, (.ptr 3 0, []))], [(2, .cells [.int .i64 0, .str (bs []), .int .i64 0, .int .i64 0, .sl (List.map cI.i64 [])] [(4, .app 3)]), (3, .cells [.int .i64 c290_.gKind, .str c290_.gName, .int .i64 c290_.gNum, .int .i64 c290_.gTo, .slx] [(4, .ex 3 true (List.map cI.i64 f291_))])], []⟩ _ (by kernel_rfl) (.cons (claws_toIntS_d h287) .nil) ?_
  refine Wc.seq ?_
  refine Wc.region [{ md := 1 }, { tk := [20] }] [] [2] [2] [] ⟨[(2, (.ptr 2 0, []))], [(2, .cells [.int .i64 c290_.gKind, .str c290_.gName, .int .i64 c290_.gNum, .int .i64 c290_.gTo, .slx] [(4, .ex 3 true (List.map cI.i64 f291_))])], []⟩ _ (by kernel_rfl) .nil ?_
  refine Wc.ret ?_
  obtain rfl := Option.some.inj h
  exact ⟨.inl rfl, by kernel_rfl, by kernel_rfl⟩

def plaws_toCellS_d_L1 (k : Nat) (d293_ : List GCell) : Nat → (List GCell) → Int → Option (Out (List GCell) (List GCell))
  | 0, _, _ => none
  | m + 1, d294_, b295_ =>
    if (decide (b295_ < (d293_.length : Int))) = true then
      (at' d293_ b295_).bind fun c297_ =>
      (plaws_toCell_d k c297_).bind fun c298_ =>
      (at' d294_ b295_).bind fun c299_ =>
      plaws_toCellS_d_L1 k d293_ m (d294_.set ((b295_).toNat) c298_) (wr.i64 (b295_ + 1))
    else
      some (.done d294_)
/-- laws.toCellS -/
def plaws_toCellS_d (k : Nat) (d293_ : List GCell) : Option (List GCell) :=
  if 0 ≤ (d293_.length : Int) ∧ (d293_.length : Int) ≤ 1073741824 then
    (plaws_toCellS_d_L1 k d293_ k (List.replicate ((d293_.length : Int)).toNat (GCell.mk 0 (bs []) 0 0 [])) 0).bind fun out1 => match out1 with
    | .ret r => some r
    | .done d296_ =>
      some d296_
  else none
theorem claws_toCellS_d {k : Nat} {d293_ : List GCell} {r : (List GCell)} (h : plaws_toCellS_d k d293_ = some r) : FnO Try.prog 78 [.v (.sl (List.map GCell.c d293_)) []] (.v (.slx) [(0, .ex 110 true (List.map GCell.c r))]) [] := by
  refine FnO.of Try.func78 (rfl : Try.f78.body = some _) (Nat.le_of_ble_eq_true (by kernel_rfl)) (Nat.le_of_ble_eq_true (by kernel_rfl)) ?_
  intro w0 X0 Fin pv0 pb
  unfold plaws_toCellS_d at h
  refine Wc.seq ?_
  refine Wc.region [] [] [0] [] [] ⟨[(0, (.v (.sl (List.map GCell.c d293_)), []))], [], []⟩ _ (by kernel_rfl) .nil ?_
  refine Wc.seq ?_
  obtain ⟨h289, h⟩ := oguard h
  refine Wc.region [{}, { v := some (.int .i64 (d293_.length : Int)) }, { c := some (List.map GCell.c (List.replicate ((d293_.length : Int)).toNat (GCell.mk 0 (bs []) 0 0 []))) }, { tk := [7] }] [] [0, 3] [] [] ⟨[(0, (.v (.sl (List.map GCell.c d293_)), [])), (3, (.v (.slx), [(0, .ex 110 true (List.map GCell.c (List.replicate ((d293_.length : Int)).toNat (GCell.mk 0 (bs []) 0 0 []))))]))], [], []⟩ _ (by kernel_rfl) (.cons (len_obl GCell.c d293_) (.cons (rep_re (c := GCell.c) (z := (GCell.mk 0 (bs []) 0 0 [])) (GCell.c_eq (GCell.mk 0 (bs []) 0 0 [])) ((d293_.length : Int)).toNat) (.cons (ms_obl h289) .nil))) ?_
  refine Wc.seq ?_
  refine Wc.seq ?_
  refine Wc.region [] [] [0, 3, 4] [] [] ⟨[(0, (.v (.sl (List.map GCell.c d293_)), [])), (3, (.v (.slx), [(0, .ex 110 true (List.map GCell.c (List.replicate ((d293_.length : Int)).toNat (GCell.mk 0 (bs []) 0 0 []))))])), (4, (.v (.int .i64 0), []))], [], []⟩ _ (by kernel_rfl) .nil ?_
  obtain ⟨out1, h290, h⟩ := obind h
  refine Wc.lastJ (fun st => ∃ (d296_ : List GCell), out1 = .done d296_ ∧ st = ⟨[(3, (.v (.slx), [(0, .ex 110 true (List.map GCell.c d296_))]))], [], []⟩) ?_ ?_
  · refine Wc.block ?_
    refine Wc.loop (fun m st => ∃ (d294_ : List GCell) (b295_ : Int), st = ⟨[(0, (.v (.sl (List.map GCell.c d293_)), [])), (3, (.v (.slx), [(0, .ex 110 true (List.map GCell.c d294_))])), (4, (.v (.int .i64 b295_), []))], [], []⟩ ∧ plaws_toCellS_d_L1 k d293_ m d294_ b295_ = some out1) ?_ k ⟨_, _, rfl, h290⟩
    rintro m st ⟨d294_, b295_, rfl, h290⟩
    cases m with
    | zero => exact (onone h290).elim
    | succ m =>
      refine Wc.seq ?_
      refine Wc.seq ?_
      refine Wc.region [{}, {}, { v := some (.int .i64 (d293_.length : Int)) }] [] [0, 3, 4, 11] [] [] ⟨[(0, (.v (.sl (List.map GCell.c d293_)), [])), (3, (.v (.slx), [(0, .ex 110 true (List.map GCell.c d294_))])), (4, (.v (.int .i64 b295_), [])), (11, (.v (.bool (decide (b295_ < (d293_.length : Int)))), []))], [], []⟩ _ (by kernel_rfl) (.cons (len_obl GCell.c d293_) .nil) ?_
      rcases oif h290 with ⟨h291, h290⟩ | ⟨h291, h290⟩
      · refine Wc.condT h291 (by kernel_rfl) ?_
        refine Wc.fix (st' := ⟨[(0, (.v (.sl (List.map GCell.c d293_)), [])), (3, (.v (.slx), [(0, .ex 110 true (List.map GCell.c d294_))])), (4, (.v (.int .i64 b295_), []))], [], []⟩) [] [0, 3, 4] [] [] (by kernel_rfl) ?_
        refine Wc.skip ?_
        refine Wc.seq ?_
        refine Wc.block ?_
        obtain ⟨c297_, h292, h290⟩ := obind h290
        obtain ⟨c298_, h293, h290⟩ := obind h290
        obtain ⟨c299_, h294, h290⟩ := obind h290
        refine Wc.region [{}, {}, {}, {}, { v := some (.vptr [.int .i64 c297_.gKind, .str c297_.gName, .int .i64 c297_.gNum, .int .i64 c297_.gTo, .sl (List.map cI.i64 c297_.gKids)]) }, {}, { r := some (.v (.agg [.int .i64 c298_.gKind, .str c298_.gName, .int .i64 c298_.gNum, .int .i64 c298_.gTo, .slx]) [(4, .ex 3 true (List.map cI.i64 c298_.gKids))]) }, {}, { c := some (List.map GCell.c (d294_.set ((b295_).toNat) c298_)), tk := [20] }] [] [0, 3, 4] [] [] ⟨[(0, (.v (.sl (List.map GCell.c d293_)), [])), (3, (.v (.slx), [(0, .ex 110 true (List.map GCell.c (d294_.set ((b295_).toNat) c298_)))])), (4, (.v (.int .i64 b295_), []))], [], []⟩ _ (by kernel_rfl) (.cons (at_obl (c := GCell.c) (GCell.c_eq c297_) GCell.c_len h292) (.cons (len_ok 5 [.int .i64 c297_.gKind, .str c297_.gName, .int .i64 c297_.gNum, .int .i64 c297_.gTo, .sl (List.map cI.i64 c297_.gKids)]) (.cons (claws_toCell_d h293) (.cons (ix_obl (c := GCell.c) GCell.c_len h294) (.cons (mod_obl (off := 0) (new := [.int .i64 c298_.gKind, .str c298_.gName, .int .i64 c298_.gNum, .int .i64 c298_.gTo, .sl (List.map cI.i64 c298_.gKids)]) (c := GCell.c) (GCell.c_eq c299_) (GCell.c_eq c298_) (at'_spec h294).2 rfl) (.cons (st_obl (sz := 5) (off := 0) (s := 5) (c := GCell.c) (GCell.c_eq c299_) (at'_spec h294).2 rfl (Nat.le_of_ble_eq_true rfl)) .nil)))))) ?_
        refine Wc.region [] [] [0, 3, 4] [] [] ⟨[(0, (.v (.sl (List.map GCell.c d293_)), [])), (3, (.v (.slx), [(0, .ex 110 true (List.map GCell.c (d294_.set ((b295_).toNat) c298_)))])), (4, (.v (.int .i64 (wr.i64 (b295_ + 1))), []))], [], []⟩ _ (by kernel_rfl) .nil ?_
        exact ⟨_, Nat.lt_succ_self _, _, _, rfl, h290⟩
      · refine Wc.condF h291 (by kernel_rfl) ?_
        refine Wc.fix (st' := ⟨[(3, (.v (.slx), [(0, .ex 110 true (List.map GCell.c d294_))]))], [], []⟩) [] [3] [] [] (by kernel_rfl) ?_
        refine Wc.exit ?_
        obtain rfl := Option.some.inj h290
        exact ⟨_, rfl, rfl⟩
  · rintro st ⟨d296_, rfl, rfl⟩
    refine Wc.seq ?_
    refine Wc.region [{ tk := [3] }, { tk := [22] }] [] [2] [] [] ⟨[(2, (.v (.slx), [(0, .ex 110 true (List.map GCell.c d296_))]))], [], []⟩ _ (by kernel_rfl) .nil ?_
    refine Wc.ret ?_
    obtain rfl := Option.some.inj h
    exact ⟨.inl rfl, by kernel_rfl, by kernel_rfl⟩

/-- laws.toHeap -/
def plaws_toHeap_d (k : Nat) (e294_ : GHeap) : Option GHeap :=
  (plaws_toCellS_d k e294_.gCells).bind fun g295_ =>
  (plaws_toIntS_d k e294_.gTrail).bind fun f296_ =>
  some (GHeap.mk g295_ f296_)
theorem claws_toHeap_d {k : Nat} {e294_ : GHeap} {r : GHeap} (h : plaws_toHeap_d k e294_ = some r) : FnO Try.prog 38 [.v (.agg [.sl (List.map GCell.c e294_.gCells), .sl (List.map cI.i64 e294_.gTrail)]) []] (.v (.agg [.slx, .slx]) [(0, .ex 110 true (List.map GCell.c r.gCells)), (1, .ex 3 true (List.map cI.i64 r.gTrail))]) [] := by
  refine FnO.of Try.func38 (rfl : Try.f38.body = some _) (Nat.le_of_ble_eq_true (by kernel_rfl)) (Nat.le_of_ble_eq_true (by kernel_rfl)) ?_
  intro w0 X0 Fin pv0 pb
  unfold plaws_toHeap_d at h
  refine Wc.seq ?_
  refine Wc.region [] [] [1, 2] [1, 2] [] ⟨[(1, (.ptr 1 0, [])), (2, (.ptr 2 0, []))], [(1, .cells [.sl (List.map GCell.c e294_.gCells), .sl (List.map cI.i64 e294_.gTrail)] []), (2, .cells [.sl (List.map GCell.c []), .sl (List.map cI.i64 [])] [(0, .app 110), (1, .app 3)])], []⟩ _ (by kernel_rfl) .nil ?_
  refine Wc.seq ?_
  refine Wc.region [] [] [1, 2, 3] [1, 2, 3] [] ⟨[(1, (.ptr 1 0, [])), (2, (.ptr 2 0, [])), (3, (.ptr 3 0, []))], [(1, .cells [.sl (List.map GCell.c e294_.gCells), .sl (List.map cI.i64 e294_.gTrail)] []), (2, .cells [.sl (List.map GCell.c []), .sl (List.map cI.i64 [])] [(0, .app 110), (1, .app 3)]), (3, .cells [.sl (List.map GCell.c []), .sl (List.map cI.i64 [])] [(0, .app 110), (1, .app 3)])], []⟩ _ (by kernel_rfl) .nil ?_
  refine Wc.seq ?_
  obtain ⟨g295_, h289, h⟩ := obind h
  refine Wc.region [{}, {}, { r := some (.v (.slx) [(0, .ex 110 true (List.map GCell.c g295_))]) }, {}, { tk := [6] }] [.so 3] [1, 2, 3] [1, 2, 3] [] ⟨[(1, (.ptr 1 0, [])), (2, (.ptr 2 0, [])), (3, (.ptr 3 0, []))], [(1, .cells [.sl (List.map GCell.c e294_.gCells), .sl (List.map cI.i64 e294_.gTrail)] []), (2, .cells [.sl (List.map GCell.c []), .sl (List.map cI.i64 [])] [(0, .app 110), (1, .app 3)]), (3, .cells [.slx, .sl (List.map cI.i64 [])] [(0, .ex 110 true (List.map GCell.c g295_)), (1, .app 3)])], []⟩ _ (by kernel_rfl) (.cons (claws_toCellS_d h289) .nil) ?_
  refine Wc.seq ?_
  obtain ⟨f296_, h290, h⟩ := obind h
  refine Wc.region [{}, {}, { r := some (.v (.slx) [(0, .ex 3 true (List.map cI.i64 f296_))]) }, {}, { tk := [10] }] [] [2, 3] [2, 3] [] ⟨[(2, (.ptr 2 0, [])), (3, (.ptr 3 0, []))], [(2, .cells [.sl (List.map GCell.c []), .sl (List.map cI.i64 [])] [(0, .app 110), (1, .app 3)]), (3, .cells [.slx, .slx] [(0, .ex 110 true (List.map GCell.c g295_)), (1, .ex 3 true (List.map cI.i64 f296_))])], []⟩ _ (by kernel_rfl) (.cons (claws_toIntS_d h290) .nil) ?_
  refine Wc.seq ?_
  refine Wc.region [{ md := 1 }, { tk := [12] }] [] [2] [2] [] ⟨[(2, (.ptr 2 0, []))], [(2, .cells [.slx, .slx] [(0, .ex 110 true (List.map GCell.c g295_)), (1, .ex 3 true (List.map cI.i64 f296_))])], []⟩ _ (by kernel_rfl) .nil ?_
  refine Wc.ret ?_
  obtain rfl := Option.some.inj h
  exact ⟨.inl rfl, by kernel_rfl, by kernel_rfl⟩

def pimpl_UndoTo_d_L1 (k : Nat) (e305_ : GHeap) (b304_ : Int) : Nat → Int → GHeap → Option (Out GHeap GHeap)
  | 0, _, _ => none
  | m + 1, b307_, e308_ =>
    if (decide (b307_ < (((((List.map cI.i64 e305_.gTrail).length : Int)).toNat - ((if (e305_.gTrail.length : Int) < (if 0 > b304_ then 0 else b304_) then (e305_.gTrail.length : Int) else (if 0 > b304_ then 0 else b304_))).toNat : Nat) : Int))) = true then
      if 0 ≤ b307_ ∧ (b307_).toNat < (((List.map cI.i64 e305_.gTrail).length : Int)).toNat - ((if (e305_.gTrail.length : Int) < (if 0 > b304_ then 0 else b304_) then (e305_.gTrail.length : Int) else (if 0 > b304_ then 0 else b304_))).toNat then
        ((e308_.gTrail)[((if (e305_.gTrail.length : Int) < (if 0 > b304_ then 0 else b304_) then (e305_.gTrail.length : Int) else (if 0 > b304_ then 0 else b304_))).toNat + (b307_).toNat]?).bind fun b310_ =>
        (at' e308_.gCells b310_).bind fun c311_ =>
        pimpl_UndoTo_d_L1 k e305_ b304_ m (wr.i64 (b307_ + 1)) (GHeap.mk (e308_.gCells.set ((b310_).toNat) (GCell.mk c311_.gKind c311_.gName c311_.gNum (-1) c311_.gKids)) e308_.gTrail)
      else none
    else
      some (.done e308_)
/-- impl.UndoTo -/
def pimpl_UndoTo_d (k : Nat) (e302_ : GHeap) (b303_ : Int) (b304_ : Int) : Option GHeap :=
  (pimpl_copyHeap_d k e302_).bind fun e305_ =>
  (pimpl_HeapOk k e302_).bind fun i306_ =>
  if (!i306_) = true then
    some e305_
  else
    if 0 ≤ (if (e305_.gTrail.length : Int) < (if 0 > b304_ then 0 else b304_) then (e305_.gTrail.length : Int) else (if 0 > b304_ then 0 else b304_)) ∧ (if (e305_.gTrail.length : Int) < (if 0 > b304_ then 0 else b304_) then (e305_.gTrail.length : Int) else (if 0 > b304_ then 0 else b304_)) ≤ (e305_.gTrail.length : Int) ∧ (e305_.gTrail.length : Int) ≤ (e305_.gTrail.length : Int) then
      (pimpl_UndoTo_d_L1 k e305_ b304_ k 0 e305_).bind fun out1 => match out1 with
      | .ret r => some r
      | .done e309_ =>
        if 0 ≤ (if (e309_.gTrail.length : Int) < (if 0 > b304_ then 0 else b304_) then (e309_.gTrail.length : Int) else (if 0 > b304_ then 0 else b304_)) ∧ (if (e309_.gTrail.length : Int) < (if 0 > b304_ then 0 else b304_) then (e309_.gTrail.length : Int) else (if 0 > b304_ then 0 else b304_)) ≤ (e309_.gTrail.length : Int) then
          if 0 ≤ (if (e309_.gCells.length : Int) < (if 0 > b303_ then 0 else b303_) then (e309_.gCells.length : Int) else (if 0 > b303_ then 0 else b303_)) ∧ (if (e309_.gCells.length : Int) < (if 0 > b303_ then 0 else b303_) then (e309_.gCells.length : Int) else (if 0 > b303_ then 0 else b303_)) ≤ (e309_.gCells.length : Int) then
            some (GHeap.mk (e309_.gCells.take ((if (e309_.gCells.length : Int) < (if 0 > b303_ then 0 else b303_) then (e309_.gCells.length : Int) else (if 0 > b303_ then 0 else b303_))).toNat) (e309_.gTrail.take ((if (e309_.gTrail.length : Int) < (if 0 > b304_ then 0 else b304_) then (e309_.gTrail.length : Int) else (if 0 > b304_ then 0 else b304_))).toNat))
          else none
        else none
    else none
set_option maxHeartbeats 4000000 in
theorem cimpl_UndoTo_d {k : Nat} {e302_ : GHeap} {b303_ : Int} {b304_ : Int} {r : GHeap} (h : pimpl_UndoTo_d k e302_ b303_ b304_ = some r) : FnO Try.prog 44 [.v (.agg [.sl (List.map GCell.c e302_.gCells), .sl (List.map cI.i64 e302_.gTrail)]) [], .v (.int .i64 b303_) [], .v (.int .i64 b304_) []] (.v (.agg [.slx, .slx]) [(0, .ex 110 true (List.map GCell.c r.gCells)), (1, .ex 3 true (List.map cI.i64 r.gTrail))]) [] := by
  refine FnO.of Try.func44 (rfl : Try.f44.body = some _) (Nat.le_of_ble_eq_true (by kernel_rfl)) (Nat.le_of_ble_eq_true (by kernel_rfl)) ?_
  intro w0 X0 Fin pv0 pb
  unfold pimpl_UndoTo_d at h
  refine Wc.seq ?_
  refine Wc.region [] [] [1, 2, 3, 6] [3, 6] [] ⟨[(1, (.v (.int .i64 b303_), [])), (2, (.v (.int .i64 b304_), [])), (3, (.ptr 3 0, [])), (6, (.ptr 6 0, []))], [(3, .cells [.sl (List.map GCell.c e302_.gCells), .sl (List.map cI.i64 e302_.gTrail)] []), (6, .cells [.sl (List.map GCell.c []), .sl (List.map cI.i64 [])] [(0, .app 110), (1, .app 3)])], []⟩ _ (by kernel_rfl) .nil ?_
  refine Wc.seq ?_
  obtain ⟨e305_, h299, h⟩ := obind h
  refine Wc.region [{}, { r := some (.v (.agg [.slx, .slx]) [(0, .ex 110 true (List.map GCell.c e305_.gCells)), (1, .ex 3 true (List.map cI.i64 e305_.gTrail))]) }, {}, { tk := [11] }] [] [1, 2, 3, 6, 7] [3, 6, 7] [] ⟨[(1, (.v (.int .i64 b303_), [])), (2, (.v (.int .i64 b304_), [])), (3, (.ptr 3 0, [])), (6, (.ptr 6 0, [])), (7, (.ptr 7 0, []))], [(3, .cells [.sl (List.map GCell.c e302_.gCells), .sl (List.map cI.i64 e302_.gTrail)] []), (6, .cells [.sl (List.map GCell.c []), .sl (List.map cI.i64 [])] [(0, .app 110), (1, .app 3)]), (7, .cells [.slx, .slx] [(0, .ex 110 true (List.map GCell.c e305_.gCells)), (1, .ex 3 true (List.map cI.i64 e305_.gTrail))])], []⟩ _ (by kernel_rfl) (.cons (cimpl_copyHeap_d h299) .nil) ?_
  refine Wc.seq ?_
  refine Wc.seq ?_
  obtain ⟨i306_, h300, h⟩ := obind h
  refine Wc.region [{}, { r := some (.v (.bool i306_) []) }] [] [1, 2, 6, 7, 14] [6, 7] [] ⟨[(1, (.v (.int .i64 b303_), [])), (2, (.v (.int .i64 b304_), [])), (6, (.ptr 6 0, [])), (7, (.ptr 7 0, [])), (14, (.v (.bool (!i306_)), []))], [(6, .cells [.sl (List.map GCell.c []), .sl (List.map cI.i64 [])] [(0, .app 110), (1, .app 3)]), (7, .cells [.slx, .slx] [(0, .ex 110 true (List.map GCell.c e305_.gCells)), (1, .ex 3 true (List.map cI.i64 e305_.gTrail))])], []⟩ _ (by kernel_rfl) (.cons (cimpl_HeapOk h300) .nil) ?_
  rcases oif h with ⟨h301, h⟩ | ⟨h301, h⟩
  · refine Wc.condT h301 (by kernel_rfl) ?_
    refine Wc.seq ?_
    refine Wc.region [{ md := 1 }, { tk := [15] }] [] [6] [6] [] ⟨[(6, (.ptr 6 0, []))], [(6, .cells [.slx, .slx] [(0, .ex 110 true (List.map GCell.c e305_.gCells)), (1, .ex 3 true (List.map cI.i64 e305_.gTrail))])], []⟩ _ (by kernel_rfl) .nil ?_
    refine Wc.ret ?_
    obtain rfl := Option.some.inj h
    exact ⟨.inl rfl, by kernel_rfl, by kernel_rfl⟩
  · refine Wc.condF h301 (by kernel_rfl) ?_
    refine Wc.fix (st' := ⟨[(1, (.v (.int .i64 b303_), [])), (2, (.v (.int .i64 b304_), [])), (6, (.ptr 6 0, [])), (7, (.ptr 7 0, []))], [(6, .cells [.sl (List.map GCell.c []), .sl (List.map cI.i64 [])] [(0, .app 110), (1, .app 3)]), (7, .cells [.slx, .slx] [(0, .ex 110 true (List.map GCell.c e305_.gCells)), (1, .ex 3 true (List.map cI.i64 e305_.gTrail))])], []⟩) [] [1, 2, 6, 7] [6, 7] [] (by kernel_rfl) ?_
    refine Wc.skip ?_
    refine Wc.seq ?_
    refine Wc.seq ?_
    obtain ⟨h302, h⟩ := oguard h
    refine Wc.region [{}, {}, {}, {}, {}, {}, { v := some (.int .i64 (e305_.gTrail.length : Int)) }] [] [1, 2, 6, 7, 24, 25, 26] [6, 7] [] ⟨[(1, (.v (.int .i64 b303_), [])), (2, (.v (.int .i64 b304_), [])), (6, (.ptr 6 0, [])), (7, (.ptr 7 0, [])), (24, (.v (.slx), [(0, .sb (.b 7 1) [] (((if (e305_.gTrail.length : Int) < (if 0 > b304_ then 0 else b304_) then (e305_.gTrail.length : Int) else (if 0 > b304_ then 0 else b304_))).toNat) 1 ((((List.map cI.i64 e305_.gTrail).length : Int)).toNat - ((if (e305_.gTrail.length : Int) < (if 0 > b304_ then 0 else b304_) then (e305_.gTrail.length : Int) else (if 0 > b304_ then 0 else b304_))).toNat))])), (25, (.v (.int .i64 (((((List.map cI.i64 e305_.gTrail).length : Int)).toNat - ((if (e305_.gTrail.length : Int) < (if 0 > b304_ then 0 else b304_) then (e305_.gTrail.length : Int) else (if 0 > b304_ then 0 else b304_))).toNat : Nat) : Int)), [])), (26, (.v (.int .i64 0), []))], [(6, .cells [.sl (List.map GCell.c []), .sl (List.map cI.i64 [])] [(0, .app 110), (1, .app 3)]), (7, .cells [.slx, .slx] [(0, .ex 110 true (List.map GCell.c e305_.gCells)), (1, .ex 3 true (List.map cI.i64 e305_.gTrail))])], []⟩ _ (by kernel_rfl) (.cons (len_obl cI.i64 e305_.gTrail) (.cons (part_obl1 (c := cI.i64) h302) .nil)) ?_
    obtain ⟨out1, h303, h⟩ := obind h
    refine Wc.lastJ (fun st => ∃ (e309_ : GHeap), out1 = .done e309_ ∧ st = ⟨[(1, (.v (.int .i64 b303_), [])), (2, (.v (.int .i64 b304_), [])), (6, (.ptr 6 0, [])), (7, (.ptr 7 0, []))], [(6, .cells [.slx, .slx] [(0, .ex 110 true (List.map GCell.c [])), (1, .ex 3 true (List.map cI.i64 []))]), (7, .cells [.slx, .slx] [(0, .ex 110 true (List.map GCell.c e309_.gCells)), (1, .ex 3 true (List.map cI.i64 e309_.gTrail))])], []⟩) ?_ ?_
    · refine Wc.block ?_
      refine Wc.fix (st' := ⟨[(1, (.v (.int .i64 b303_), [])), (2, (.v (.int .i64 b304_), [])), (6, (.ptr 6 0, [])), (7, (.ptr 7 0, [])), (24, (.v (.slx), [(0, .sb (.b 7 1) [] (((if (e305_.gTrail.length : Int) < (if 0 > b304_ then 0 else b304_) then (e305_.gTrail.length : Int) else (if 0 > b304_ then 0 else b304_))).toNat) 1 ((((List.map cI.i64 e305_.gTrail).length : Int)).toNat - ((if (e305_.gTrail.length : Int) < (if 0 > b304_ then 0 else b304_) then (e305_.gTrail.length : Int) else (if 0 > b304_ then 0 else b304_))).toNat))])), (25, (.v (.int .i64 (((((List.map cI.i64 e305_.gTrail).length : Int)).toNat - ((if (e305_.gTrail.length : Int) < (if 0 > b304_ then 0 else b304_) then (e305_.gTrail.length : Int) else (if 0 > b304_ then 0 else b304_))).toNat : Nat) : Int)), [])), (26, (.v (.int .i64 0), []))], [(6, .cells [.slx, .slx] [(0, .ex 110 true (List.map GCell.c [])), (1, .ex 3 true (List.map cI.i64 []))]), (7, .cells [.slx, .slx] [(0, .ex 110 true (List.map GCell.c e305_.gCells)), (1, .ex 3 true (List.map cI.i64 e305_.gTrail))])], []⟩) [.ow (.b 6 0) true, .ow (.b 6 1) true] [1, 2, 6, 7, 24, 25, 26] [6, 7] [] (by kernel_rfl) ?_
      refine Wc.loop (fun m st => ∃ (b307_ : Int) (e308_ : GHeap), st = ⟨[(1, (.v (.int .i64 b303_), [])), (2, (.v (.int .i64 b304_), [])), (6, (.ptr 6 0, [])), (7, (.ptr 7 0, [])), (24, (.v (.slx), [(0, .sb (.b 7 1) [] (((if (e305_.gTrail.length : Int) < (if 0 > b304_ then 0 else b304_) then (e305_.gTrail.length : Int) else (if 0 > b304_ then 0 else b304_))).toNat) 1 ((((List.map cI.i64 e305_.gTrail).length : Int)).toNat - ((if (e305_.gTrail.length : Int) < (if 0 > b304_ then 0 else b304_) then (e305_.gTrail.length : Int) else (if 0 > b304_ then 0 else b304_))).toNat))])), (25, (.v (.int .i64 (((((List.map cI.i64 e305_.gTrail).length : Int)).toNat - ((if (e305_.gTrail.length : Int) < (if 0 > b304_ then 0 else b304_) then (e305_.gTrail.length : Int) else (if 0 > b304_ then 0 else b304_))).toNat : Nat) : Int)), [])), (26, (.v (.int .i64 b307_), []))], [(6, .cells [.slx, .slx] [(0, .ex 110 true (List.map GCell.c [])), (1, .ex 3 true (List.map cI.i64 []))]), (7, .cells [.slx, .slx] [(0, .ex 110 true (List.map GCell.c e308_.gCells)), (1, .ex 3 true (List.map cI.i64 e308_.gTrail))])], []⟩ ∧ pimpl_UndoTo_d_L1 k e305_ b304_ m b307_ e308_ = some out1) ?_ k ⟨_, _, rfl, h303⟩
      rintro m st ⟨b307_, e308_, rfl, h303⟩
      cases m with
      | zero => exact (onone h303).elim
      | succ m =>
        refine Wc.seq ?_
        refine Wc.region [] [] [1, 2, 6, 7, 24, 25, 26, 27] [6, 7] [] ⟨[(1, (.v (.int .i64 b303_), [])), (2, (.v (.int .i64 b304_), [])), (6, (.ptr 6 0, [])), (7, (.ptr 7 0, [])), (24, (.v (.slx), [(0, .sb (.b 7 1) [] (((if (e305_.gTrail.length : Int) < (if 0 > b304_ then 0 else b304_) then (e305_.gTrail.length : Int) else (if 0 > b304_ then 0 else b304_))).toNat) 1 ((((List.map cI.i64 e305_.gTrail).length : Int)).toNat - ((if (e305_.gTrail.length : Int) < (if 0 > b304_ then 0 else b304_) then (e305_.gTrail.length : Int) else (if 0 > b304_ then 0 else b304_))).toNat))])), (25, (.v (.int .i64 (((((List.map cI.i64 e305_.gTrail).length : Int)).toNat - ((if (e305_.gTrail.length : Int) < (if 0 > b304_ then 0 else b304_) then (e305_.gTrail.length : Int) else (if 0 > b304_ then 0 else b304_))).toNat : Nat) : Int)), [])), (26, (.v (.int .i64 b307_), [])), (27, (.v (.bool (decide (b307_ < (((((List.map cI.i64 e305_.gTrail).length : Int)).toNat - ((if (e305_.gTrail.length : Int) < (if 0 > b304_ then 0 else b304_) then (e305_.gTrail.length : Int) else (if 0 > b304_ then 0 else b304_))).toNat : Nat) : Int)))), []))], [(6, .cells [.slx, .slx] [(0, .ex 110 true (List.map GCell.c [])), (1, .ex 3 true (List.map cI.i64 []))]), (7, .cells [.slx, .slx] [(0, .ex 110 true (List.map GCell.c e308_.gCells)), (1, .ex 3 true (List.map cI.i64 e308_.gTrail))])], []⟩ _ (by kernel_rfl) .nil ?_
        refine Wc.seq ?_
        rcases oif h303 with ⟨h304, h303⟩ | ⟨h304, h303⟩
        · refine Wc.condT h304 (by kernel_rfl) ?_
          refine Wc.fix (st' := ⟨[(1, (.v (.int .i64 b303_), [])), (2, (.v (.int .i64 b304_), [])), (6, (.ptr 6 0, [])), (7, (.ptr 7 0, [])), (24, (.v (.slx), [(0, .sb (.b 7 1) [] (((if (e305_.gTrail.length : Int) < (if 0 > b304_ then 0 else b304_) then (e305_.gTrail.length : Int) else (if 0 > b304_ then 0 else b304_))).toNat) 1 ((((List.map cI.i64 e305_.gTrail).length : Int)).toNat - ((if (e305_.gTrail.length : Int) < (if 0 > b304_ then 0 else b304_) then (e305_.gTrail.length : Int) else (if 0 > b304_ then 0 else b304_))).toNat))])), (25, (.v (.int .i64 (((((List.map cI.i64 e305_.gTrail).length : Int)).toNat - ((if (e305_.gTrail.length : Int) < (if 0 > b304_ then 0 else b304_) then (e305_.gTrail.length : Int) else (if 0 > b304_ then 0 else b304_))).toNat : Nat) : Int)), [])), (26, (.v (.int .i64 b307_), []))], [(6, .cells [.slx, .slx] [(0, .ex 110 true (List.map GCell.c [])), (1, .ex 3 true (List.map cI.i64 []))]), (7, .cells [.slx, .slx] [(0, .ex 110 true (List.map GCell.c e308_.gCells)), (1, .ex 3 true (List.map cI.i64 e308_.gTrail))])], []⟩) [] [1, 2, 6, 7, 24, 25, 26] [6, 7] [] (by kernel_rfl) ?_
          refine Wc.skip ?_
          refine Wc.seq ?_
          refine Wc.block ?_
          refine Wc.seq ?_
          obtain ⟨h305, h303⟩ := oguard h303
          obtain ⟨b310_, h306, h303⟩ := obind h303
          refine Wc.region [{}, { v := some (.int .i64 b310_) }] [] [1, 2, 6, 7, 9, 24, 25, 26] [6, 7] [] ⟨[(1, (.v (.int .i64 b303_), [])), (2, (.v (.int .i64 b304_), [])), (6, (.ptr 6 0, [])), (7, (.ptr 7 0, [])), (9, (.v (.int .i64 b310_), [])), (24, (.v (.slx), [(0, .sb (.b 7 1) [] (((if (e305_.gTrail.length : Int) < (if 0 > b304_ then 0 else b304_) then (e305_.gTrail.length : Int) else (if 0 > b304_ then 0 else b304_))).toNat) 1 ((((List.map cI.i64 e305_.gTrail).length : Int)).toNat - ((if (e305_.gTrail.length : Int) < (if 0 > b304_ then 0 else b304_) then (e305_.gTrail.length : Int) else (if 0 > b304_ then 0 else b304_))).toNat))])), (25, (.v (.int .i64 (((((List.map cI.i64 e305_.gTrail).length : Int)).toNat - ((if (e305_.gTrail.length : Int) < (if 0 > b304_ then 0 else b304_) then (e305_.gTrail.length : Int) else (if 0 > b304_ then 0 else b304_))).toNat : Nat) : Int)), [])), (26, (.v (.int .i64 b307_), []))], [(6, .cells [.slx, .slx] [(0, .ex 110 true (List.map GCell.c [])), (1, .ex 3 true (List.map cI.i64 []))]), (7, .cells [.slx, .slx] [(0, .ex 110 true (List.map GCell.c e308_.gCells)), (1, .ex 3 true (List.map cI.i64 e308_.gTrail))])], []⟩ _ (by kernel_rfl) (.cons h305 (.cons (el_oblD (sz := 1) (off := 0) (s := 1) (ag := false) (v := .int .i64 b310_) (c := cI.i64) rfl h306 rfl (Nat.le_of_ble_eq_true rfl) rfl) .nil)) ?_
          obtain ⟨c311_, h307, h303⟩ := obind h303
          refine Wc.region [{}, {}, {}, {}, {}, { c := some (List.map GCell.c (e308_.gCells.set ((b310_).toNat) (GCell.mk c311_.gKind c311_.gName c311_.gNum (-1) c311_.gKids))) }] [] [1, 2, 6, 7, 24, 25, 26] [6, 7] [] ⟨[(1, (.v (.int .i64 b303_), [])), (2, (.v (.int .i64 b304_), [])), (6, (.ptr 6 0, [])), (7, (.ptr 7 0, [])), (24, (.v (.slx), [(0, .sb (.b 7 1) [] (((if (e305_.gTrail.length : Int) < (if 0 > b304_ then 0 else b304_) then (e305_.gTrail.length : Int) else (if 0 > b304_ then 0 else b304_))).toNat) 1 ((((List.map cI.i64 e305_.gTrail).length : Int)).toNat - ((if (e305_.gTrail.length : Int) < (if 0 > b304_ then 0 else b304_) then (e305_.gTrail.length : Int) else (if 0 > b304_ then 0 else b304_))).toNat))])), (25, (.v (.int .i64 (((((List.map cI.i64 e305_.gTrail).length : Int)).toNat - ((if (e305_.gTrail.length : Int) < (if 0 > b304_ then 0 else b304_) then (e305_.gTrail.length : Int) else (if 0 > b304_ then 0 else b304_))).toNat : Nat) : Int)), [])), (26, (.v (.int .i64 b307_), []))], [(6, .cells [.slx, .slx] [(0, .ex 110 true (List.map GCell.c [])), (1, .ex 3 true (List.map cI.i64 []))]), (7, .cells [.slx, .slx] [(0, .ex 110 true (List.map GCell.c (e308_.gCells.set ((b310_).toNat) (GCell.mk c311_.gKind c311_.gName c311_.gNum (-1) c311_.gKids)))), (1, .ex 3 true (List.map cI.i64 e308_.gTrail))])], []⟩ _ (by kernel_rfl) (.cons (ix_obl (c := GCell.c) GCell.c_len h307) (.cons (mod_obl (off := 3) (new := [.int .i64 (-1)]) (c := GCell.c) (GCell.c_eq c311_) (GCell.c_eq (GCell.mk c311_.gKind c311_.gName c311_.gNum (-1) c311_.gKids)) (at'_spec h307).2 rfl) (.cons (st_obl (sz := 5) (off := 3) (s := 1) (c := GCell.c) (GCell.c_eq c311_) (at'_spec h307).2 rfl (Nat.le_of_ble_eq_true rfl)) .nil))) ?_
          refine Wc.region [] [] [1, 2, 6, 7, 24, 25, 26] [6, 7] [] ⟨[(1, (.v (.int .i64 b303_), [])), (2, (.v (.int .i64 b304_), [])), (6, (.ptr 6 0, [])), (7, (.ptr 7 0, [])), (24, (.v (.slx), [(0, .sb (.b 7 1) [] (((if (e305_.gTrail.length : Int) < (if 0 > b304_ then 0 else b304_) then (e305_.gTrail.length : Int) else (if 0 > b304_ then 0 else b304_))).toNat) 1 ((((List.map cI.i64 e305_.gTrail).length : Int)).toNat - ((if (e305_.gTrail.length : Int) < (if 0 > b304_ then 0 else b304_) then (e305_.gTrail.length : Int) else (if 0 > b304_ then 0 else b304_))).toNat))])), (25, (.v (.int .i64 (((((List.map cI.i64 e305_.gTrail).length : Int)).toNat - ((if (e305_.gTrail.length : Int) < (if 0 > b304_ then 0 else b304_) then (e305_.gTrail.length : Int) else (if 0 > b304_ then 0 else b304_))).toNat : Nat) : Int)), [])), (26, (.v (.int .i64 (wr.i64 (b307_ + 1))), []))], [(6, .cells [.slx, .slx] [(0, .ex 110 true (List.map GCell.c [])), (1, .ex 3 true (List.map cI.i64 []))]), (7, .cells [.slx, .slx] [(0, .ex 110 true (List.map GCell.c (e308_.gCells.set ((b310_).toNat) (GCell.mk c311_.gKind c311_.gName c311_.gNum (-1) c311_.gKids)))), (1, .ex 3 true (List.map cI.i64 e308_.gTrail))])], []⟩ _ (by kernel_rfl) .nil ?_
          exact ⟨_, Nat.lt_succ_self _, _, _, rfl, h303⟩
        · refine Wc.condF h304 (by kernel_rfl) ?_
          refine Wc.fix (st' := ⟨[(1, (.v (.int .i64 b303_), [])), (2, (.v (.int .i64 b304_), [])), (6, (.ptr 6 0, [])), (7, (.ptr 7 0, []))], [(6, .cells [.slx, .slx] [(0, .ex 110 true (List.map GCell.c [])), (1, .ex 3 true (List.map cI.i64 []))]), (7, .cells [.slx, .slx] [(0, .ex 110 true (List.map GCell.c e308_.gCells)), (1, .ex 3 true (List.map cI.i64 e308_.gTrail))])], []⟩) [] [1, 2, 6, 7] [6, 7] [] (by kernel_rfl) ?_
          refine Wc.exit ?_
          obtain rfl := Option.some.inj h303
          exact ⟨_, rfl, rfl⟩
    · rintro st ⟨e309_, rfl, rfl⟩
      refine Wc.seq ?_
      obtain ⟨h308, h⟩ := oguard h
      refine Wc.region [{}, {}, {}, {}, {}, {}, { v := some (.int .i64 (e309_.gTrail.length : Int)) }, {}, { c := some (List.map cI.i64 (e309_.gTrail.take ((if (e309_.gTrail.length : Int) < (if 0 > b304_ then 0 else b304_) then (e309_.gTrail.length : Int) else (if 0 > b304_ then 0 else b304_))).toNat)), tk := [37], fx := [.pl 37] }, {}, { tk := [44] }] [] [1, 6, 7] [6, 7] [] ⟨[(1, (.v (.int .i64 b303_), [])), (6, (.ptr 6 0, [])), (7, (.ptr 7 0, []))], [(6, .cells [.slx, .slx] [(0, .ex 110 true (List.map GCell.c [])), (1, .ex 3 true (List.map cI.i64 []))]), (7, .cells [.slx, .slx] [(0, .ex 110 true (List.map GCell.c e309_.gCells)), (1, .ex 3 true (List.map cI.i64 (e309_.gTrail.take ((if (e309_.gTrail.length : Int) < (if 0 > b304_ then 0 else b304_) then (e309_.gTrail.length : Int) else (if 0 > b304_ then 0 else b304_))).toNat)))])], []⟩ _ (by kernel_rfl) (.cons (len_obl cI.i64 e309_.gTrail) (.cons (take_re cI.i64 e309_.gTrail (if (e309_.gTrail.length : Int) < (if 0 > b304_ then 0 else b304_) then (e309_.gTrail.length : Int) else (if 0 > b304_ then 0 else b304_))) (.cons (take_obl (c := cI.i64) h308) .nil))) ?_
      refine Wc.seq ?_
      obtain ⟨h309, h⟩ := oguard h
      refine Wc.region [{}, {}, {}, {}, {}, {}, { v := some (.int .i64 (e309_.gCells.length : Int)) }, {}, { c := some (List.map GCell.c (e309_.gCells.take ((if (e309_.gCells.length : Int) < (if 0 > b303_ then 0 else b303_) then (e309_.gCells.length : Int) else (if 0 > b303_ then 0 else b303_))).toNat)), tk := [47], fx := [.pl 47] }, {}, { tk := [54] }] [.so 7] [6, 7] [6, 7] [] ⟨[(6, (.ptr 6 0, [])), (7, (.ptr 7 0, []))], [(6, .cells [.slx, .slx] [(0, .ex 110 true (List.map GCell.c [])), (1, .ex 3 true (List.map cI.i64 []))]), (7, .cells [.slx, .slx] [(0, .ex 110 true (List.map GCell.c (e309_.gCells.take ((if (e309_.gCells.length : Int) < (if 0 > b303_ then 0 else b303_) then (e309_.gCells.length : Int) else (if 0 > b303_ then 0 else b303_))).toNat))), (1, .ex 3 true (List.map cI.i64 (e309_.gTrail.take ((if (e309_.gTrail.length : Int) < (if 0 > b304_ then 0 else b304_) then (e309_.gTrail.length : Int) else (if 0 > b304_ then 0 else b304_))).toNat)))])], []⟩ _ (by kernel_rfl) (.cons (len_obl GCell.c e309_.gCells) (.cons (take_re GCell.c e309_.gCells (if (e309_.gCells.length : Int) < (if 0 > b303_ then 0 else b303_) then (e309_.gCells.length : Int) else (if 0 > b303_ then 0 else b303_))) (.cons (take_obl (c := GCell.c) h309) .nil))) ?_
      refine Wc.seq ?_
      refine Wc.region [{ md := 1 }, { tk := [56] }] [] [6] [6] [] ⟨[(6, (.ptr 6 0, []))], [(6, .cells [.slx, .slx] [(0, .ex 110 true (List.map GCell.c (e309_.gCells.take ((if (e309_.gCells.length : Int) < (if 0 > b303_ then 0 else b303_) then (e309_.gCells.length : Int) else (if 0 > b303_ then 0 else b303_))).toNat))), (1, .ex 3 true (List.map cI.i64 (e309_.gTrail.take ((if (e309_.gTrail.length : Int) < (if 0 > b304_ then 0 else b304_) then (e309_.gTrail.length : Int) else (if 0 > b304_ then 0 else b304_))).toNat)))])], []⟩ _ (by kernel_rfl) .nil ?_
      refine Wc.ret ?_
      obtain rfl := Option.some.inj h
      exact ⟨.inl rfl, by kernel_rfl, by kernel_rfl⟩

/-- laws.FnExactUndoTo -/
def plaws_FnExactUndoTo (k : Nat) (e285_ : GHeap) (b286_ : Int) (b287_ : Int) : Option Bool :=
  (plaws_szHeap k e285_ 1048576).bind fun b288_ =>
  if (decide (b288_ < 0)) = true then
    some true
  else
    (plaws_toHeap k e285_).bind fun e289_ =>
    (pspec_UndoTo k e289_ b286_ b287_).bind fun e290_ =>
    (plaws_toHeap_d k e285_).bind fun e291_ =>
    (pimpl_UndoTo_d k e291_ b286_ b287_).bind fun e292_ =>
    (plaws_eqHeap k e292_ e290_).bind fun i293_ =>
    if (!i293_) = true then
      some false
    else
      (plaws_toHeap k e285_).bind fun e294_ =>
      (plaws_eqHeap k e291_ e294_).bind fun i295_ =>
      if (!i295_) = true then
        some false
      else
        (plaws_markHeap k e291_ 1).bind fun q296_ =>
        if (decide (q296_.2 < 0)) = true then
          some false
        else
          (plaws_eqHeap k e292_ e290_).bind fun i297_ =>
          if (!i297_) = true then
            some false
          else
            (plaws_markHeap k e292_ 1).bind fun q298_ =>
            (plaws_heldHeap k (GHeap.mk q298_.1.gCells q298_.1.gTrail) 1).bind fun b299_ =>
            if (decide (b299_ < 0)) = true then
              some false
            else
              if (b299_ != q298_.2) = true then
                some false
              else
                (plaws_toHeap k e285_).bind fun e300_ =>
                (pimpl_UndoTo k e300_ b286_ b287_).bind fun e301_ =>
                (plaws_eqHeap k e301_ e290_).bind fun i302_ =>
                if (!i302_) = true then
                  some false
                else
                  (plaws_heldHeap k (GHeap.mk q298_.1.gCells q298_.1.gTrail) 1).bind fun b303_ =>
                  if (decide (b303_ < 0)) = true then
                    some false
                  else
                    if (b303_ != q298_.2) = true then
                      some false
                    else
                      some true
set_option maxHeartbeats 4000000 in
theorem claws_FnExactUndoTo {k : Nat} {e285_ : GHeap} {b286_ : Int} {b287_ : Int} {r : Bool} (h : plaws_FnExactUndoTo k e285_ b286_ b287_ = some r) : FnO Try.prog 8 [.v (.agg [.sl (List.map GCell.c e285_.gCells), .sl (List.map cI.i64 e285_.gTrail)]) [], .v (.int .i64 b286_) [], .v (.int .i64 b287_) []] (.v (.bool r) []) [] := by
  refine FnO.of Try.func8 (rfl : Try.f8.body = some _) (Nat.le_of_ble_eq_true (by kernel_rfl)) (Nat.le_of_ble_eq_true (by kernel_rfl)) ?_
  intro w0 X0 Fin pv0 pb
  unfold plaws_FnExactUndoTo at h
  refine Wc.seq ?_
  refine Wc.region [] [] [1, 2, 3] [3] [] ⟨[(1, (.v (.int .i64 b286_), [])), (2, (.v (.int .i64 b287_), [])), (3, (.ptr 3 0, []))], [(3, .cells [.sl (List.map GCell.c e285_.gCells), .sl (List.map cI.i64 e285_.gTrail)] [])], []⟩ _ (by kernel_rfl) .nil ?_
  refine Wc.seq ?_
  refine Wc.region [] [] [1, 2, 3, 7] [3] [] ⟨[(1, (.v (.int .i64 b286_), [])), (2, (.v (.int .i64 b287_), [])), (3, (.ptr 3 0, [])), (7, (.v (.int .i64 1048576), []))], [(3, .cells [.sl (List.map GCell.c e285_.gCells), .sl (List.map cI.i64 e285_.gTrail)] [])], []⟩ _ (by kernel_rfl) .nil ?_
  refine Wc.seq ?_
  obtain ⟨b288_, h283, h⟩ := obind h
  refine Wc.region [{}, {}, { r := some (.v (.int .i64 b288_) []) }] [] [1, 2, 3, 7] [3] [] ⟨[(1, (.v (.int .i64 b286_), [])), (2, (.v (.int .i64 b287_), [])), (3, (.ptr 3 0, [])), (7, (.v (.int .i64 b288_), []))], [(3, .cells [.sl (List.map GCell.c e285_.gCells), .sl (List.map cI.i64 e285_.gTrail)] [])], []⟩ _ (by kernel_rfl) (.cons (claws_szHeap h283) .nil) ?_
  refine Wc.seq ?_
  refine Wc.seq ?_
  refine Wc.region [] [] [1, 2, 3, 19] [3] [] ⟨[(1, (.v (.int .i64 b286_), [])), (2, (.v (.int .i64 b287_), [])), (3, (.ptr 3 0, [])), (19, (.v (.bool (decide (b288_ < 0))), []))], [(3, .cells [.sl (List.map GCell.c e285_.gCells), .sl (List.map cI.i64 e285_.gTrail)] [])], []⟩ _ (by kernel_rfl) .nil ?_
  rcases oif h with ⟨h284, h⟩ | ⟨h284, h⟩
  · refine Wc.condT h284 (by kernel_rfl) ?_
    refine Wc.seq ?_
    refine Wc.region [] [] [6] [] [] ⟨[(6, (.v (.bool true), []))], [], []⟩ _ (by kernel_rfl) .nil ?_
    refine Wc.ret ?_
    obtain rfl := Option.some.inj h
    exact ⟨.inl rfl, by kernel_rfl, by kernel_rfl⟩
  · refine Wc.condF h284 (by kernel_rfl) ?_
    refine Wc.fix (st' := ⟨[(1, (.v (.int .i64 b286_), [])), (2, (.v (.int .i64 b287_), [])), (3, (.ptr 3 0, []))], [(3, .cells [.sl (List.map GCell.c e285_.gCells), .sl (List.map cI.i64 e285_.gTrail)] [])], []⟩) [] [1, 2, 3] [3] [] (by kernel_rfl) ?_
    refine Wc.skip ?_
    refine Wc.seq ?_
    obtain ⟨e289_, h285, h⟩ := obind h
    obtain ⟨e290_, h286, h⟩ := obind h
    refine Wc.region [{}, { r := some (.v (.agg [.sl (List.map GCell.c e289_.gCells), .sl (List.map cI.i64 e289_.gTrail)]) []) }, {}, {}, { r := some (.v (.agg [.sl (List.map GCell.c e290_.gCells), .sl (List.map cI.i64 e290_.gTrail)]) [(0, .app 110), (1, .app 3)]) }, {}, { tk := [24] }] [] [1, 2, 3, 8] [3, 8] [] ⟨[(1, (.v (.int .i64 b286_), [])), (2, (.v (.int .i64 b287_), [])), (3, (.ptr 3 0, [])), (8, (.ptr 8 0, []))], [(3, .cells [.sl (List.map GCell.c e285_.gCells), .sl (List.map cI.i64 e285_.gTrail)] []), (8, .cells [.sl (List.map GCell.c e290_.gCells), .sl (List.map cI.i64 e290_.gTrail)] [(0, .app 110), (1, .app 3)])], []⟩ _ (by kernel_rfl) (.cons (claws_toHeap h285) (.cons (cspec_UndoTo h286) .nil)) ?_
    refine Wc.seq ?_
    obtain ⟨e291_, h287, h⟩ := obind h
    refine Wc.region [{}, { r := some (.v (.agg [.slx, .slx]) [(0, .ex 110 true (List.map GCell.c e291_.gCells)), (1, .ex 3 true (List.map cI.i64 e291_.gTrail))]) }, {}, { tk := [26] }] [] [1, 2, 3, 8, 9] [3, 8, 9] [] ⟨[(1, (.v (.int .i64 b286_), [])), (2, (.v (.int .i64 b287_), [])), (3, (.ptr 3 0, [])), (8, (.ptr 8 0, [])), (9, (.ptr 9 0, []))], [(3, .cells [.sl (List.map GCell.c e285_.gCells), .sl (List.map cI.i64 e285_.gTrail)] []), (8, .cells [.sl (List.map GCell.c e290_.gCells), .sl (List.map cI.i64 e290_.gTrail)] [(0, .app 110), (1, .app 3)]), (9, .cells [.slx, .slx] [(0, .ex 110 true (List.map GCell.c e291_.gCells)), (1, .ex 3 true (List.map cI.i64 e291_.gTrail))])], []⟩ _ (by kernel_rfl) (.cons (claws_toHeap_d h287) .nil) ?_
    refine Wc.seq ?_
    obtain ⟨e292_, h288, h⟩ := obind h
    refine Wc.region [{}, {}, {}, { r := some (.v (.agg [.slx, .slx]) [(0, .ex 110 true (List.map GCell.c e292_.gCells)), (1, .ex 3 true (List.map cI.i64 e292_.gTrail))]) }, {}, { tk := [30] }] [] [1, 2, 3, 8, 9, 10] [3, 8, 9, 10] [] ⟨[(1, (.v (.int .i64 b286_), [])), (2, (.v (.int .i64 b287_), [])), (3, (.ptr 3 0, [])), (8, (.ptr 8 0, [])), (9, (.ptr 9 0, [])), (10, (.ptr 10 0, []))], [(3, .cells [.sl (List.map GCell.c e285_.gCells), .sl (List.map cI.i64 e285_.gTrail)] []), (8, .cells [.sl (List.map GCell.c e290_.gCells), .sl (List.map cI.i64 e290_.gTrail)] [(0, .app 110), (1, .app 3)]), (9, .cells [.slx, .slx] [(0, .ex 110 true (List.map GCell.c e291_.gCells)), (1, .ex 3 true (List.map cI.i64 e291_.gTrail))]), (10, .cells [.slx, .slx] [(0, .ex 110 true (List.map GCell.c e292_.gCells)), (1, .ex 3 true (List.map cI.i64 e292_.gTrail))])], []⟩ _ (by kernel_rfl) (.cons (cimpl_UndoTo_d h288) .nil) ?_
    refine Wc.seq ?_
    refine Wc.seq ?_
    obtain ⟨i293_, h289, h⟩ := obind h
    refine Wc.region [{}, {}, { r := some (.v (.bool i293_) []) }] [] [1, 2, 3, 8, 9, 10, 34] [3, 8, 9, 10] [] ⟨[(1, (.v (.int .i64 b286_), [])), (2, (.v (.int .i64 b287_), [])), (3, (.ptr 3 0, [])), (8, (.ptr 8 0, [])), (9, (.ptr 9 0, [])), (10, (.ptr 10 0, [])), (34, (.v (.bool (!i293_)), []))], [(3, .cells [.sl (List.map GCell.c e285_.gCells), .sl (List.map cI.i64 e285_.gTrail)] []), (8, .cells [.sl (List.map GCell.c e290_.gCells), .sl (List.map cI.i64 e290_.gTrail)] [(0, .app 110), (1, .app 3)]), (9, .cells [.slx, .slx] [(0, .ex 110 true (List.map GCell.c e291_.gCells)), (1, .ex 3 true (List.map cI.i64 e291_.gTrail))]), (10, .cells [.slx, .slx] [(0, .ex 110 true (List.map GCell.c e292_.gCells)), (1, .ex 3 true (List.map cI.i64 e292_.gTrail))])], []⟩ _ (by kernel_rfl) (.cons (claws_eqHeap h289) .nil) ?_
    rcases oif h with ⟨h290, h⟩ | ⟨h290, h⟩
    · refine Wc.condT h290 (by kernel_rfl) ?_
      refine Wc.seq ?_
      refine Wc.region [] [] [6] [] [] ⟨[(6, (.v (.bool false), []))], [], []⟩ _ (by kernel_rfl) .nil ?_
      refine Wc.ret ?_
      obtain rfl := Option.some.inj h
      exact ⟨.inl rfl, by kernel_rfl, by kernel_rfl⟩
    · refine Wc.condF h290 (by kernel_rfl) ?_
      refine Wc.fix (st' := ⟨[(1, (.v (.int .i64 b286_), [])), (2, (.v (.int .i64 b287_), [])), (3, (.ptr 3 0, [])), (8, (.ptr 8 0, [])), (9, (.ptr 9 0, [])), (10, (.ptr 10 0, []))], [(3, .cells [.sl (List.map GCell.c e285_.gCells), .sl (List.map cI.i64 e285_.gTrail)] []), (8, .cells [.sl (List.map GCell.c e290_.gCells), .sl (List.map cI.i64 e290_.gTrail)] [(0, .app 110), (1, .app 3)]), (9, .cells [.slx, .slx] [(0, .ex 110 true (List.map GCell.c e291_.gCells)), (1, .ex 3 true (List.map cI.i64 e291_.gTrail))]), (10, .cells [.slx, .slx] [(0, .ex 110 true (List.map GCell.c e292_.gCells)), (1, .ex 3 true (List.map cI.i64 e292_.gTrail))])], []⟩) [] [1, 2, 3, 8, 9, 10] [3, 8, 9, 10] [] (by kernel_rfl) ?_
      refine Wc.skip ?_
      refine Wc.seq ?_
      refine Wc.seq ?_
      obtain ⟨e294_, h291, h⟩ := obind h
      obtain ⟨i295_, h292, h⟩ := obind h
      refine Wc.draw hmix [{}, {}, { r := some (.v (.agg [.sl (List.map GCell.c e294_.gCells), .sl (List.map cI.i64 e294_.gTrail)]) []) }, { r := some (.v (.bool i295_) []) }] [] [1, 2, 3, 8, 9, 10, 39] [3, 8, 9, 10] [] ⟨[(1, (.v (.int .i64 b286_), [])), (2, (.v (.int .i64 b287_), [])), (3, (.ptr 3 0, [])), (8, (.ptr 8 0, [])), (9, (.ptr 9 0, [])), (10, (.ptr 10 0, [])), (39, (.v (.bool (!i295_)), []))], [(3, .cells [.sl (List.map GCell.c e285_.gCells), .sl (List.map cI.i64 e285_.gTrail)] []), (8, .cells [.sl (List.map GCell.c e290_.gCells), .sl (List.map cI.i64 e290_.gTrail)] [(0, .app 110), (1, .app 3)]), (9, .cells [.slx, .slx] [(0, .ex 110 true (List.map GCell.c e291_.gCells)), (1, .ex 3 true (List.map cI.i64 e291_.gTrail))]), (10, .cells [.slx, .slx] [(0, .ex 110 true (List.map GCell.c e292_.gCells)), (1, .ex 3 true (List.map cI.i64 e292_.gTrail))])], []⟩ _ (by kernel_rfl) (fun X => by kernel_rfl) (.cons (claws_toHeap h291) (.cons (claws_eqHeap h292) .nil)) ?_
      rcases oif h with ⟨h293, h⟩ | ⟨h293, h⟩
      · refine Wc.condT h293 (by kernel_rfl) ?_
        refine Wc.seq ?_
        refine Wc.region [] [] [6] [] [] ⟨[(6, (.v (.bool false), []))], [], []⟩ _ (by kernel_rfl) .nil ?_
        refine Wc.ret ?_
        obtain rfl := Option.some.inj h
        exact ⟨.inl rfl, by kernel_rfl, by kernel_rfl⟩
      · refine Wc.condF h293 (by kernel_rfl) ?_
        refine Wc.fix (st' := ⟨[(1, (.v (.int .i64 b286_), [])), (2, (.v (.int .i64 b287_), [])), (3, (.ptr 3 0, [])), (8, (.ptr 8 0, [])), (9, (.ptr 9 0, [])), (10, (.ptr 10 0, []))], [(3, .cells [.sl (List.map GCell.c e285_.gCells), .sl (List.map cI.i64 e285_.gTrail)] []), (8, .cells [.sl (List.map GCell.c e290_.gCells), .sl (List.map cI.i64 e290_.gTrail)] [(0, .app 110), (1, .app 3)]), (9, .cells [.slx, .slx] [(0, .ex 110 true (List.map GCell.c e291_.gCells)), (1, .ex 3 true (List.map cI.i64 e291_.gTrail))]), (10, .cells [.slx, .slx] [(0, .ex 110 true (List.map GCell.c e292_.gCells)), (1, .ex 3 true (List.map cI.i64 e292_.gTrail))])], []⟩) [] [1, 2, 3, 8, 9, 10] [3, 8, 9, 10] [] (by kernel_rfl) ?_
        refine Wc.skip ?_
        refine Wc.seq ?_
        refine Wc.region [] [] [1, 2, 3, 8, 9, 10, 11] [3, 8, 9, 10] [] ⟨[(1, (.v (.int .i64 b286_), [])), (2, (.v (.int .i64 b287_), [])), (3, (.ptr 3 0, [])), (8, (.ptr 8 0, [])), (9, (.ptr 9 0, [])), (10, (.ptr 10 0, [])), (11, (.v (.int .i64 1), []))], [(3, .cells [.sl (List.map GCell.c e285_.gCells), .sl (List.map cI.i64 e285_.gTrail)] []), (8, .cells [.sl (List.map GCell.c e290_.gCells), .sl (List.map cI.i64 e290_.gTrail)] [(0, .app 110), (1, .app 3)]), (9, .cells [.slx, .slx] [(0, .ex 110 true (List.map GCell.c e291_.gCells)), (1, .ex 3 true (List.map cI.i64 e291_.gTrail))]), (10, .cells [.slx, .slx] [(0, .ex 110 true (List.map GCell.c e292_.gCells)), (1, .ex 3 true (List.map cI.i64 e292_.gTrail))])], []⟩ _ (by kernel_rfl) .nil ?_
        refine Wc.seq ?_
        obtain ⟨q296_, h294, h⟩ := obind h
        refine Wc.region [{}, {}, { io := [0], r := some (.v (.int .i64 q296_.2) []), outs := [(0, .v .undef [(0, .ex 1000000007 true (List.map GCell.c q296_.1.gCells)), (1, .ex 1000000007 true (List.map cI.i64 q296_.1.gTrail))])] }] [] [1, 2, 3, 8, 10, 11] [3, 8, 10] [] ⟨[(1, (.v (.int .i64 b286_), [])), (2, (.v (.int .i64 b287_), [])), (3, (.ptr 3 0, [])), (8, (.ptr 8 0, [])), (10, (.ptr 10 0, [])), (11, (.v (.int .i64 q296_.2), []))], [(3, .cells [.sl (List.map GCell.c e285_.gCells), .sl (List.map cI.i64 e285_.gTrail)] []), (8, .cells [.sl (List.map GCell.c e290_.gCells), .sl (List.map cI.i64 e290_.gTrail)] [(0, .app 110), (1, .app 3)]), (10, .cells [.slx, .slx] [(0, .ex 110 true (List.map GCell.c e292_.gCells)), (1, .ex 3 true (List.map cI.i64 e292_.gTrail))])], []⟩ _ (by kernel_rfl) (.cons (FnO.any (args := [.io (.agg [.slx, .slx]) [(0, .ex 110 true (List.map GCell.c e291_.gCells)), (1, .ex 3 true (List.map cI.i64 e291_.gTrail))], .v (.int .i64 1) []]) (claws_markHeap h294)) .nil) ?_
        refine Wc.seq ?_
        refine Wc.seq ?_
        rcases oif h with ⟨h295, h⟩ | ⟨h295, h⟩
        · refine Wc.region [{}, {}, { re := some (.bool true) }] [] [1, 2, 3, 8, 10, 50] [3, 8, 10] [] ⟨[(1, (.v (.int .i64 b286_), [])), (2, (.v (.int .i64 b287_), [])), (3, (.ptr 3 0, [])), (8, (.ptr 8 0, [])), (10, (.ptr 10 0, [])), (50, (.v (.bool true), []))], [(3, .cells [.sl (List.map GCell.c e285_.gCells), .sl (List.map cI.i64 e285_.gTrail)] []), (8, .cells [.sl (List.map GCell.c e290_.gCells), .sl (List.map cI.i64 e290_.gTrail)] [(0, .app 110), (1, .app 3)]), (10, .cells [.slx, .slx] [(0, .ex 110 true (List.map GCell.c e292_.gCells)), (1, .ex 3 true (List.map cI.i64 e292_.gTrail))])], []⟩ _ (by kernel_rfl) (.cons (congrArg AV.bool h295) .nil) ?_
          refine Wc.condT rfl (by kernel_rfl) ?_
          refine Wc.seq ?_
          refine Wc.region [] [] [6] [] [] ⟨[(6, (.v (.bool false), []))], [], []⟩ _ (by kernel_rfl) .nil ?_
          refine Wc.ret ?_
          obtain rfl := Option.some.inj h
          exact ⟨.inl rfl, by kernel_rfl, by kernel_rfl⟩
        · obtain ⟨i297_, h296, h⟩ := obind h
          refine Wc.region [{}, {}, { re := some (.bool false) }, {}, {}, { r := some (.v (.bool i297_) []) }] [] [1, 2, 3, 8, 10, 50] [3, 8, 10] [] ⟨[(1, (.v (.int .i64 b286_), [])), (2, (.v (.int .i64 b287_), [])), (3, (.ptr 3 0, [])), (8, (.ptr 8 0, [])), (10, (.ptr 10 0, [])), (50, (.v (.bool (!i297_)), []))], [(3, .cells [.sl (List.map GCell.c e285_.gCells), .sl (List.map cI.i64 e285_.gTrail)] []), (8, .cells [.sl (List.map GCell.c e290_.gCells), .sl (List.map cI.i64 e290_.gTrail)] [(0, .app 110), (1, .app 3)]), (10, .cells [.slx, .slx] [(0, .ex 110 true (List.map GCell.c e292_.gCells)), (1, .ex 3 true (List.map cI.i64 e292_.gTrail))])], []⟩ _ (by kernel_rfl) (.cons (congrArg AV.bool h295) (.cons (claws_eqHeap h296) .nil)) ?_
          rcases oif h with ⟨h297, h⟩ | ⟨h297, h⟩
          · refine Wc.condT h297 (by kernel_rfl) ?_
            refine Wc.seq ?_
            refine Wc.region [] [] [6] [] [] ⟨[(6, (.v (.bool false), []))], [], []⟩ _ (by kernel_rfl) .nil ?_
            refine Wc.ret ?_
            obtain rfl := Option.some.inj h
            exact ⟨.inl rfl, by kernel_rfl, by kernel_rfl⟩
          · refine Wc.condF h297 (by kernel_rfl) ?_
            refine Wc.fix (st' := ⟨[(1, (.v (.int .i64 b286_), [])), (2, (.v (.int .i64 b287_), [])), (3, (.ptr 3 0, [])), (8, (.ptr 8 0, [])), (10, (.ptr 10 0, []))], [(3, .cells [.sl (List.map GCell.c e285_.gCells), .sl (List.map cI.i64 e285_.gTrail)] []), (8, .cells [.sl (List.map GCell.c e290_.gCells), .sl (List.map cI.i64 e290_.gTrail)] [(0, .app 110), (1, .app 3)]), (10, .cells [.slx, .slx] [(0, .ex 110 true (List.map GCell.c e292_.gCells)), (1, .ex 3 true (List.map cI.i64 e292_.gTrail))])], []⟩) [] [1, 2, 3, 8, 10] [3, 8, 10] [] (by kernel_rfl) ?_
            refine Wc.skip ?_
            refine Wc.seq ?_
            refine Wc.region [] [] [1, 2, 3, 8, 10, 12] [3, 8, 10] [] ⟨[(1, (.v (.int .i64 b286_), [])), (2, (.v (.int .i64 b287_), [])), (3, (.ptr 3 0, [])), (8, (.ptr 8 0, [])), (10, (.ptr 10 0, [])), (12, (.v (.int .i64 1), []))], [(3, .cells [.sl (List.map GCell.c e285_.gCells), .sl (List.map cI.i64 e285_.gTrail)] []), (8, .cells [.sl (List.map GCell.c e290_.gCells), .sl (List.map cI.i64 e290_.gTrail)] [(0, .app 110), (1, .app 3)]), (10, .cells [.slx, .slx] [(0, .ex 110 true (List.map GCell.c e292_.gCells)), (1, .ex 3 true (List.map cI.i64 e292_.gTrail))])], []⟩ _ (by kernel_rfl) .nil ?_
            refine Wc.seq ?_
            obtain ⟨q298_, h298, h⟩ := obind h
            refine Wc.region [{}, {}, { io := [0], r := some (.v (.int .i64 q298_.2) []), outs := [(0, .v .undef [(0, .ex 1000000007 true (List.map GCell.c q298_.1.gCells)), (1, .ex 1000000007 true (List.map cI.i64 q298_.1.gTrail))])] }] [] [1, 2, 3, 8, 10, 12] [3, 8, 10] [] ⟨[(1, (.v (.int .i64 b286_), [])), (2, (.v (.int .i64 b287_), [])), (3, (.ptr 3 0, [])), (8, (.ptr 8 0, [])), (10, (.ptr 10 0, [])), (12, (.v (.int .i64 q298_.2), []))], [(3, .cells [.sl (List.map GCell.c e285_.gCells), .sl (List.map cI.i64 e285_.gTrail)] []), (8, .cells [.sl (List.map GCell.c e290_.gCells), .sl (List.map cI.i64 e290_.gTrail)] [(0, .app 110), (1, .app 3)]), (10, .cells [.slx, .slx] [(0, .ex 1000000007 true (List.map GCell.c q298_.1.gCells)), (1, .ex 1000000007 true (List.map cI.i64 q298_.1.gTrail))])], []⟩ _ (by kernel_rfl) (.cons (FnO.any (args := [.io (.agg [.slx, .slx]) [(0, .ex 110 true (List.map GCell.c e292_.gCells)), (1, .ex 3 true (List.map cI.i64 e292_.gTrail))], .v (.int .i64 1) []]) (claws_markHeap h298)) .nil) ?_
            refine Wc.seq ?_
            refine Wc.region [] [] [1, 2, 3, 8, 10, 12, 13] [3, 8, 10] [] ⟨[(1, (.v (.int .i64 b286_), [])), (2, (.v (.int .i64 b287_), [])), (3, (.ptr 3 0, [])), (8, (.ptr 8 0, [])), (10, (.ptr 10 0, [])), (12, (.v (.int .i64 q298_.2), [])), (13, (.v (.int .i64 1), []))], [(3, .cells [.sl (List.map GCell.c e285_.gCells), .sl (List.map cI.i64 e285_.gTrail)] []), (8, .cells [.sl (List.map GCell.c e290_.gCells), .sl (List.map cI.i64 e290_.gTrail)] [(0, .app 110), (1, .app 3)]), (10, .cells [.slx, .slx] [(0, .ex 1000000007 true (List.map GCell.c q298_.1.gCells)), (1, .ex 1000000007 true (List.map cI.i64 q298_.1.gTrail))])], []⟩ _ (by kernel_rfl) .nil ?_
            refine Wc.seq ?_
            obtain ⟨b299_, h299, h⟩ := obind h
            refine Wc.region [{}, {}, { r := some (.v (.int .i64 b299_) []) }] [] [1, 2, 3, 8, 10, 12, 13] [3, 8, 10] [] ⟨[(1, (.v (.int .i64 b286_), [])), (2, (.v (.int .i64 b287_), [])), (3, (.ptr 3 0, [])), (8, (.ptr 8 0, [])), (10, (.ptr 10 0, [])), (12, (.v (.int .i64 q298_.2), [])), (13, (.v (.int .i64 b299_), []))], [(3, .cells [.sl (List.map GCell.c e285_.gCells), .sl (List.map cI.i64 e285_.gTrail)] []), (8, .cells [.sl (List.map GCell.c e290_.gCells), .sl (List.map cI.i64 e290_.gTrail)] [(0, .app 110), (1, .app 3)]), (10, .cells [.slx, .slx] [(0, .ex 1000000007 true (List.map GCell.c q298_.1.gCells)), (1, .ex 1000000007 true (List.map cI.i64 q298_.1.gTrail))])], []⟩ _ (by kernel_rfl) (.cons (claws_heldHeap h299) .nil) ?_
            refine Wc.seq ?_
            refine Wc.seq ?_
            refine Wc.region [] [] [1, 2, 3, 8, 10, 12, 13, 58] [3, 8, 10] [] ⟨[(1, (.v (.int .i64 b286_), [])), (2, (.v (.int .i64 b287_), [])), (3, (.ptr 3 0, [])), (8, (.ptr 8 0, [])), (10, (.ptr 10 0, [])), (12, (.v (.int .i64 q298_.2), [])), (13, (.v (.int .i64 b299_), [])), (58, (.v (.bool (decide (b299_ < 0))), []))], [(3, .cells [.sl (List.map GCell.c e285_.gCells), .sl (List.map cI.i64 e285_.gTrail)] []), (8, .cells [.sl (List.map GCell.c e290_.gCells), .sl (List.map cI.i64 e290_.gTrail)] [(0, .app 110), (1, .app 3)]), (10, .cells [.slx, .slx] [(0, .ex 1000000007 true (List.map GCell.c q298_.1.gCells)), (1, .ex 1000000007 true (List.map cI.i64 q298_.1.gTrail))])], []⟩ _ (by kernel_rfl) .nil ?_
            rcases oif h with ⟨h300, h⟩ | ⟨h300, h⟩
            · refine Wc.condT h300 (by kernel_rfl) ?_
              refine Wc.seq ?_
              refine Wc.region [] [] [6] [] [] ⟨[(6, (.v (.bool false), []))], [], []⟩ _ (by kernel_rfl) .nil ?_
              refine Wc.ret ?_
              obtain rfl := Option.some.inj h
              exact ⟨.inl rfl, by kernel_rfl, by kernel_rfl⟩
            · refine Wc.condF h300 (by kernel_rfl) ?_
              refine Wc.fix (st' := ⟨[(1, (.v (.int .i64 b286_), [])), (2, (.v (.int .i64 b287_), [])), (3, (.ptr 3 0, [])), (8, (.ptr 8 0, [])), (10, (.ptr 10 0, [])), (12, (.v (.int .i64 q298_.2), [])), (13, (.v (.int .i64 b299_), []))], [(3, .cells [.sl (List.map GCell.c e285_.gCells), .sl (List.map cI.i64 e285_.gTrail)] []), (8, .cells [.sl (List.map GCell.c e290_.gCells), .sl (List.map cI.i64 e290_.gTrail)] [(0, .app 110), (1, .app 3)]), (10, .cells [.slx, .slx] [(0, .ex 1000000007 true (List.map GCell.c q298_.1.gCells)), (1, .ex 1000000007 true (List.map cI.i64 q298_.1.gTrail))])], []⟩) [] [1, 2, 3, 8, 10, 12, 13] [3, 8, 10] [] (by kernel_rfl) ?_
              refine Wc.skip ?_
              refine Wc.seq ?_
              refine Wc.seq ?_
              refine Wc.region [] [] [1, 2, 3, 8, 10, 12, 61] [3, 8, 10] [] ⟨[(1, (.v (.int .i64 b286_), [])), (2, (.v (.int .i64 b287_), [])), (3, (.ptr 3 0, [])), (8, (.ptr 8 0, [])), (10, (.ptr 10 0, [])), (12, (.v (.int .i64 q298_.2), [])), (61, (.v (.bool (b299_ != q298_.2)), []))], [(3, .cells [.sl (List.map GCell.c e285_.gCells), .sl (List.map cI.i64 e285_.gTrail)] []), (8, .cells [.sl (List.map GCell.c e290_.gCells), .sl (List.map cI.i64 e290_.gTrail)] [(0, .app 110), (1, .app 3)]), (10, .cells [.slx, .slx] [(0, .ex 1000000007 true (List.map GCell.c q298_.1.gCells)), (1, .ex 1000000007 true (List.map cI.i64 q298_.1.gTrail))])], []⟩ _ (by kernel_rfl) .nil ?_
              rcases oif h with ⟨h301, h⟩ | ⟨h301, h⟩
              · refine Wc.condT h301 (by kernel_rfl) ?_
                refine Wc.seq ?_
                refine Wc.region [] [] [6] [] [] ⟨[(6, (.v (.bool false), []))], [], []⟩ _ (by kernel_rfl) .nil ?_
                refine Wc.ret ?_
                obtain rfl := Option.some.inj h
                exact ⟨.inl rfl, by kernel_rfl, by kernel_rfl⟩
              · refine Wc.condF h301 (by kernel_rfl) ?_
                refine Wc.fix (st' := ⟨[(1, (.v (.int .i64 b286_), [])), (2, (.v (.int .i64 b287_), [])), (3, (.ptr 3 0, [])), (8, (.ptr 8 0, [])), (10, (.ptr 10 0, [])), (12, (.v (.int .i64 q298_.2), []))], [(3, .cells [.sl (List.map GCell.c e285_.gCells), .sl (List.map cI.i64 e285_.gTrail)] []), (8, .cells [.sl (List.map GCell.c e290_.gCells), .sl (List.map cI.i64 e290_.gTrail)] [(0, .app 110), (1, .app 3)]), (10, .cells [.slx, .slx] [(0, .ex 1000000007 true (List.map GCell.c q298_.1.gCells)), (1, .ex 1000000007 true (List.map cI.i64 q298_.1.gTrail))])], []⟩) [] [1, 2, 3, 8, 10, 12] [3, 8, 10] [] (by kernel_rfl) ?_
                refine Wc.skip ?_
                refine Wc.seq ?_
                obtain ⟨e300_, h302, h⟩ := obind h
                obtain ⟨e301_, h303, h⟩ := obind h
                refine Wc.region [{}, { r := some (.v (.agg [.sl (List.map GCell.c e300_.gCells), .sl (List.map cI.i64 e300_.gTrail)]) []) }, {}, {}, { r := some (.v (.agg [.sl (List.map GCell.c e301_.gCells), .sl (List.map cI.i64 e301_.gTrail)]) []) }] [] [8, 10, 12, 14] [8, 10, 14] [] ⟨[(8, (.ptr 8 0, [])), (10, (.ptr 10 0, [])), (12, (.v (.int .i64 q298_.2), [])), (14, (.ptr 14 0, []))], [(8, .cells [.sl (List.map GCell.c e290_.gCells), .sl (List.map cI.i64 e290_.gTrail)] [(0, .app 110), (1, .app 3)]), (10, .cells [.slx, .slx] [(0, .ex 1000000007 true (List.map GCell.c q298_.1.gCells)), (1, .ex 1000000007 true (List.map cI.i64 q298_.1.gTrail))]), (14, .cells [.sl (List.map GCell.c e301_.gCells), .sl (List.map cI.i64 e301_.gTrail)] [])], []⟩ _ (by kernel_rfl) (.cons (claws_toHeap h302) (.cons (cimpl_UndoTo h303) .nil)) ?_
                refine Wc.seq ?_
                refine Wc.seq ?_
                obtain ⟨i302_, h304, h⟩ := obind h
                refine Wc.region [{}, {}, { r := some (.v (.bool i302_) []) }] [] [10, 12, 70] [10] [] ⟨[(10, (.ptr 10 0, [])), (12, (.v (.int .i64 q298_.2), [])), (70, (.v (.bool (!i302_)), []))], [(10, .cells [.slx, .slx] [(0, .ex 1000000007 true (List.map GCell.c q298_.1.gCells)), (1, .ex 1000000007 true (List.map cI.i64 q298_.1.gTrail))])], []⟩ _ (by kernel_rfl) (.cons (claws_eqHeap h304) .nil) ?_
                rcases oif h with ⟨h305, h⟩ | ⟨h305, h⟩
                · refine Wc.condT h305 (by kernel_rfl) ?_
                  refine Wc.seq ?_
                  refine Wc.region [] [] [6] [] [] ⟨[(6, (.v (.bool false), []))], [], []⟩ _ (by kernel_rfl) .nil ?_
                  refine Wc.ret ?_
                  obtain rfl := Option.some.inj h
                  exact ⟨.inl rfl, by kernel_rfl, by kernel_rfl⟩
                · refine Wc.condF h305 (by kernel_rfl) ?_
                  refine Wc.fix (st' := ⟨[(10, (.ptr 10 0, [])), (12, (.v (.int .i64 q298_.2), []))], [(10, .cells [.slx, .slx] [(0, .ex 1000000007 true (List.map GCell.c q298_.1.gCells)), (1, .ex 1000000007 true (List.map cI.i64 q298_.1.gTrail))])], []⟩) [] [10, 12] [10] [] (by kernel_rfl) ?_
                  refine Wc.skip ?_
                  refine Wc.seq ?_
                  refine Wc.region [] [] [10, 12, 13] [10] [] ⟨[(10, (.ptr 10 0, [])), (12, (.v (.int .i64 q298_.2), [])), (13, (.v (.int .i64 1), []))], [(10, .cells [.slx, .slx] [(0, .ex 1000000007 true (List.map GCell.c q298_.1.gCells)), (1, .ex 1000000007 true (List.map cI.i64 q298_.1.gTrail))])], []⟩ _ (by kernel_rfl) .nil ?_
                  refine Wc.seq ?_
                  obtain ⟨b303_, h306, h⟩ := obind h
                  refine Wc.region [{}, {}, { r := some (.v (.int .i64 b303_) []) }] [] [12, 13] [] [] ⟨[(12, (.v (.int .i64 q298_.2), [])), (13, (.v (.int .i64 b303_), []))], [], []⟩ _ (by kernel_rfl) (.cons (claws_heldHeap h306) .nil) ?_
                  refine Wc.seq ?_
                  refine Wc.seq ?_
                  refine Wc.region [] [] [12, 13, 75] [] [] ⟨[(12, (.v (.int .i64 q298_.2), [])), (13, (.v (.int .i64 b303_), [])), (75, (.v (.bool (decide (b303_ < 0))), []))], [], []⟩ _ (by kernel_rfl) .nil ?_
                  rcases oif h with ⟨h307, h⟩ | ⟨h307, h⟩
                  · refine Wc.condT h307 (by kernel_rfl) ?_
                    refine Wc.seq ?_
                    refine Wc.region [] [] [6] [] [] ⟨[(6, (.v (.bool false), []))], [], []⟩ _ (by kernel_rfl) .nil ?_
                    refine Wc.ret ?_
                    obtain rfl := Option.some.inj h
                    exact ⟨.inl rfl, by kernel_rfl, by kernel_rfl⟩
                  · refine Wc.condF h307 (by kernel_rfl) ?_
                    refine Wc.fix (st' := ⟨[(12, (.v (.int .i64 q298_.2), [])), (13, (.v (.int .i64 b303_), []))], [], []⟩) [] [12, 13] [] [] (by kernel_rfl) ?_
                    refine Wc.skip ?_
                    refine Wc.seq ?_
                    refine Wc.seq ?_
                    refine Wc.region [] [] [78] [] [] ⟨[(78, (.v (.bool (b303_ != q298_.2)), []))], [], []⟩ _ (by kernel_rfl) .nil ?_
                    rcases oif h with ⟨h308, h⟩ | ⟨h308, h⟩
                    · refine Wc.condT h308 (by kernel_rfl) ?_
                      refine Wc.seq ?_
                      refine Wc.region [] [] [6] [] [] ⟨[(6, (.v (.bool false), []))], [], []⟩ _ (by kernel_rfl) .nil ?_
                      refine Wc.ret ?_
                      obtain rfl := Option.some.inj h
                      exact ⟨.inl rfl, by kernel_rfl, by kernel_rfl⟩
                    · refine Wc.condF h308 (by kernel_rfl) ?_
                      refine Wc.fix (st' := ⟨[], [], []⟩) [] [] [] [] (by kernel_rfl) ?_
                      refine Wc.skip ?_
                      refine Wc.seq ?_
                      refine Wc.region [] [] [6] [] [] ⟨[(6, (.v (.bool true), []))], [], []⟩ _ (by kernel_rfl) .nil ?_
                      refine Wc.ret ?_
                      obtain rfl := Option.some.inj h
                      exact ⟨.inl rfl, by kernel_rfl, by kernel_rfl⟩
end Go.Proofs.Ytbfkmgenokhkgaa

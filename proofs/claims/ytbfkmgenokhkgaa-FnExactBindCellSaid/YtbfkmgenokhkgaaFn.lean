/- What the functions do, part 2. -/
import Derived.Test.YtbfkmgenokhkgaaFna
set_option linter.unusedVariables false
set_option linter.unusedSimpArgs false
namespace Go.Proofs.Ytbfkmgenokhkgaa
open Go.RowKit Go.Bv
/-- impl.BindCell -/
def pimpl_BindCell (k : Nat) (e210_ : GHeap) (b211_ : Int) (b212_ : Int) : Option (GHeap × Bool) :=
  (pimpl_copyHeap_d k e210_).bind fun e213_ =>
  (pimpl_HeapOk k e210_).bind fun g214_ =>
  if (!g214_) = true then
    some (e213_, false)
  else
    (pimpl_isCell k e210_ b211_).bind fun g215_ =>
    if (!g215_) = true then
      some (e213_, false)
    else
      (pimpl_isCell k e210_ b212_).bind fun g216_ =>
      if (!g216_) = true then
        some (e213_, false)
      else
        (at' e210_.gCells b211_).bind fun c217_ =>
        if (c217_.gKind != 1) = true then
          some (e213_, false)
        else
          (at' e210_.gCells b211_).bind fun c218_ =>
          if (c218_.gTo != (-1)) = true then
            some (e213_, false)
          else
            (pimpl_follow k e210_ b212_).bind fun b219_ =>
            if (b219_ == b211_) = true then
              some (e213_, false)
            else
              (at' e213_.gCells b211_).bind fun c220_ =>
              if e213_.gTrail.length + [b211_].length ≤ 1073741824 then
                some (GHeap.mk (e213_.gCells.set ((b211_).toNat) (GCell.mk c220_.gKind c220_.gName c220_.gNum b212_ c220_.gKids)) (e213_.gTrail ++ [b211_]), true)
              else none
set_option maxHeartbeats 4000000 in
theorem cimpl_BindCell {k : Nat} {e210_ : GHeap} {b211_ : Int} {b212_ : Int} {r : GHeap × Bool} (h : pimpl_BindCell k e210_ b211_ b212_ = some r) : FnO Try.prog 39 [.v (.agg [.sl (List.map GCell.c e210_.gCells), .sl (List.map cI.i64 e210_.gTrail)]) [], .v (.int .i64 b211_) [], .v (.int .i64 b212_) []] (.v (.tup [.agg [.sl (List.map GCell.c r.1.gCells), .sl (List.map cI.i64 r.1.gTrail)], .bool r.2]) []) [] := by
  refine FnO.of Try.func39 (rfl : Try.f39.body = some _) (Nat.le_of_ble_eq_true (by kernel_rfl)) (Nat.le_of_ble_eq_true (by kernel_rfl)) ?_
  intro w0 X0 Fin pv0 pb
  unfold pimpl_BindCell at h
  refine Wc.seq ?_
  refine Wc.region [] [] [1, 2, 3, 6] [3, 6] [] ⟨[(1, (.v (.int .i64 b211_), [])), (2, (.v (.int .i64 b212_), [])), (3, (.ptr 3 0, [])), (6, (.ptr 6 0, []))], [(3, .cells [.sl (List.map GCell.c e210_.gCells), .sl (List.map cI.i64 e210_.gTrail)] []), (6, .cells [.sl (List.map GCell.c []), .sl (List.map cI.i64 [])] [(0, .app 110), (1, .app 3)])], []⟩ _ (by kernel_rfl) .nil ?_
  refine Wc.seq ?_
  obtain ⟨e213_, h218, h⟩ := obind h
  refine Wc.region [{}, { r := some (.v (.agg [.slx, .slx]) [(0, .ex 110 true (List.map GCell.c e213_.gCells)), (1, .ex 3 true (List.map cI.i64 e213_.gTrail))]) }, {}, { tk := [10] }] [] [1, 2, 3, 6, 8] [3, 6, 8] [] ⟨[(1, (.v (.int .i64 b211_), [])), (2, (.v (.int .i64 b212_), [])), (3, (.ptr 3 0, [])), (6, (.ptr 6 0, [])), (8, (.ptr 8 0, []))], [(3, .cells [.sl (List.map GCell.c e210_.gCells), .sl (List.map cI.i64 e210_.gTrail)] []), (6, .cells [.sl (List.map GCell.c []), .sl (List.map cI.i64 [])] [(0, .app 110), (1, .app 3)]), (8, .cells [.slx, .slx] [(0, .ex 110 true (List.map GCell.c e213_.gCells)), (1, .ex 3 true (List.map cI.i64 e213_.gTrail))])], []⟩ _ (by kernel_rfl) (.cons (cimpl_copyHeap_d h218) .nil) ?_
  refine Wc.seq ?_
  refine Wc.seq ?_
  obtain ⟨g214_, h219, h⟩ := obind h
  rcases oif h with ⟨h220, h⟩ | ⟨h220, h⟩
  · refine Wc.region [{}, { r := some (.v (.bool g214_) []) }, {}, { re := some (.bool true) }] [] [1, 2, 6, 8, 50] [6, 8] [] ⟨[(1, (.v (.int .i64 b211_), [])), (2, (.v (.int .i64 b212_), [])), (6, (.ptr 6 0, [])), (8, (.ptr 8 0, [])), (50, (.v (.bool true), []))], [(6, .cells [.sl (List.map GCell.c []), .sl (List.map cI.i64 [])] [(0, .app 110), (1, .app 3)]), (8, .cells [.slx, .slx] [(0, .ex 110 true (List.map GCell.c e213_.gCells)), (1, .ex 3 true (List.map cI.i64 e213_.gTrail))])], []⟩ _ (by kernel_rfl) (.cons (cimpl_HeapOk h219) (.cons (congrArg AV.bool h220) .nil)) ?_
    refine Wc.condT rfl (by kernel_rfl) ?_
    refine Wc.seq ?_
    refine Wc.region [{ md := 1 }, { tk := [51] }] [] [6, 7] [6] [] ⟨[(6, (.ptr 6 0, [])), (7, (.v (.bool false), []))], [(6, .cells [.slx, .slx] [(0, .ex 110 true (List.map GCell.c e213_.gCells)), (1, .ex 3 true (List.map cI.i64 e213_.gTrail))])], []⟩ _ (by kernel_rfl) .nil ?_
    refine Wc.fix (st' := ⟨[(6, (.ptr 6 0, [])), (7, (.v (.bool false), []))], [(6, .cells [.sl (List.map GCell.c e213_.gCells), .sl (List.map cI.i64 e213_.gTrail)] [])], []⟩) [.sh (.b 6 0), .sh (.b 6 1)] [6, 7] [6] [] (by kernel_rfl) ?_
    refine Wc.ret ?_
    obtain rfl := Option.some.inj h
    exact ⟨.inl rfl, by kernel_rfl, by kernel_rfl⟩
  · obtain ⟨g215_, h221, h⟩ := obind h
    rcases oif h with ⟨h222, h⟩ | ⟨h222, h⟩
    · refine Wc.region [{}, { r := some (.v (.bool g214_) []) }, {}, { re := some (.bool false) }, {}, {}, { r := some (.v (.bool g215_) []) }, {}, {}, { re := some (.bool true) }] [] [1, 2, 6, 8, 50] [6, 8] [] ⟨[(1, (.v (.int .i64 b211_), [])), (2, (.v (.int .i64 b212_), [])), (6, (.ptr 6 0, [])), (8, (.ptr 8 0, [])), (50, (.v (.bool true), []))], [(6, .cells [.sl (List.map GCell.c []), .sl (List.map cI.i64 [])] [(0, .app 110), (1, .app 3)]), (8, .cells [.slx, .slx] [(0, .ex 110 true (List.map GCell.c e213_.gCells)), (1, .ex 3 true (List.map cI.i64 e213_.gTrail))])], []⟩ _ (by kernel_rfl) (.cons (cimpl_HeapOk h219) (.cons (congrArg AV.bool h220) (.cons (cimpl_isCell h221) (.cons (congrArg AV.bool h222) .nil)))) ?_
      refine Wc.condT rfl (by kernel_rfl) ?_
      refine Wc.seq ?_
      refine Wc.region [{ md := 1 }, { tk := [51] }] [] [6, 7] [6] [] ⟨[(6, (.ptr 6 0, [])), (7, (.v (.bool false), []))], [(6, .cells [.slx, .slx] [(0, .ex 110 true (List.map GCell.c e213_.gCells)), (1, .ex 3 true (List.map cI.i64 e213_.gTrail))])], []⟩ _ (by kernel_rfl) .nil ?_
      refine Wc.fix (st' := ⟨[(6, (.ptr 6 0, [])), (7, (.v (.bool false), []))], [(6, .cells [.sl (List.map GCell.c e213_.gCells), .sl (List.map cI.i64 e213_.gTrail)] [])], []⟩) [.sh (.b 6 0), .sh (.b 6 1)] [6, 7] [6] [] (by kernel_rfl) ?_
      refine Wc.ret ?_
      obtain rfl := Option.some.inj h
      exact ⟨.inl rfl, by kernel_rfl, by kernel_rfl⟩
    · obtain ⟨g216_, h223, h⟩ := obind h
      rcases oif h with ⟨h224, h⟩ | ⟨h224, h⟩
      · refine Wc.region [{}, { r := some (.v (.bool g214_) []) }, {}, { re := some (.bool false) }, {}, {}, { r := some (.v (.bool g215_) []) }, {}, {}, { re := some (.bool false) }, {}, {}, { r := some (.v (.bool g216_) []) }, {}, {}, { re := some (.bool true) }] [] [1, 2, 6, 8, 50] [6, 8] [] ⟨[(1, (.v (.int .i64 b211_), [])), (2, (.v (.int .i64 b212_), [])), (6, (.ptr 6 0, [])), (8, (.ptr 8 0, [])), (50, (.v (.bool true), []))], [(6, .cells [.sl (List.map GCell.c []), .sl (List.map cI.i64 [])] [(0, .app 110), (1, .app 3)]), (8, .cells [.slx, .slx] [(0, .ex 110 true (List.map GCell.c e213_.gCells)), (1, .ex 3 true (List.map cI.i64 e213_.gTrail))])], []⟩ _ (by kernel_rfl) (.cons (cimpl_HeapOk h219) (.cons (congrArg AV.bool h220) (.cons (cimpl_isCell h221) (.cons (congrArg AV.bool h222) (.cons (cimpl_isCell h223) (.cons (congrArg AV.bool h224) .nil)))))) ?_
        refine Wc.condT rfl (by kernel_rfl) ?_
        refine Wc.seq ?_
        refine Wc.region [{ md := 1 }, { tk := [51] }] [] [6, 7] [6] [] ⟨[(6, (.ptr 6 0, [])), (7, (.v (.bool false), []))], [(6, .cells [.slx, .slx] [(0, .ex 110 true (List.map GCell.c e213_.gCells)), (1, .ex 3 true (List.map cI.i64 e213_.gTrail))])], []⟩ _ (by kernel_rfl) .nil ?_
        refine Wc.fix (st' := ⟨[(6, (.ptr 6 0, [])), (7, (.v (.bool false), []))], [(6, .cells [.sl (List.map GCell.c e213_.gCells), .sl (List.map cI.i64 e213_.gTrail)] [])], []⟩) [.sh (.b 6 0), .sh (.b 6 1)] [6, 7] [6] [] (by kernel_rfl) ?_
        refine Wc.ret ?_
        obtain rfl := Option.some.inj h
        exact ⟨.inl rfl, by kernel_rfl, by kernel_rfl⟩
      · obtain ⟨c217_, h225, h⟩ := obind h
        rcases oif h with ⟨h226, h⟩ | ⟨h226, h⟩
        · refine Wc.region [{}, { r := some (.v (.bool g214_) []) }, {}, { re := some (.bool false) }, {}, {}, { r := some (.v (.bool g215_) []) }, {}, {}, { re := some (.bool false) }, {}, {}, { r := some (.v (.bool g216_) []) }, {}, {}, { re := some (.bool false) }, {}, {}, {}, { v := some (.vptr [.int .i64 c217_.gKind, .str c217_.gName, .int .i64 c217_.gNum, .int .i64 c217_.gTo, .sl (List.map cI.i64 c217_.gKids)]) }, {}, {}, {}, {}, { re := some (.bool true) }] [] [1, 2, 6, 8, 50] [6, 8] [] ⟨[(1, (.v (.int .i64 b211_), [])), (2, (.v (.int .i64 b212_), [])), (6, (.ptr 6 0, [])), (8, (.ptr 8 0, [])), (50, (.v (.bool true), []))], [(6, .cells [.sl (List.map GCell.c []), .sl (List.map cI.i64 [])] [(0, .app 110), (1, .app 3)]), (8, .cells [.slx, .slx] [(0, .ex 110 true (List.map GCell.c e213_.gCells)), (1, .ex 3 true (List.map cI.i64 e213_.gTrail))])], []⟩ _ (by kernel_rfl) (.cons (cimpl_HeapOk h219) (.cons (congrArg AV.bool h220) (.cons (cimpl_isCell h221) (.cons (congrArg AV.bool h222) (.cons (cimpl_isCell h223) (.cons (congrArg AV.bool h224) (.cons (at_obl (c := GCell.c) (GCell.c_eq c217_) GCell.c_len h225) (.cons (len_ok 1 [.int .i64 c217_.gKind, .str c217_.gName, .int .i64 c217_.gNum, .int .i64 c217_.gTo, .sl (List.map cI.i64 c217_.gKids)]) (.cons (congrArg AV.bool h226) .nil))))))))) ?_
          refine Wc.condT rfl (by kernel_rfl) ?_
          refine Wc.seq ?_
          refine Wc.region [{ md := 1 }, { tk := [51] }] [] [6, 7] [6] [] ⟨[(6, (.ptr 6 0, [])), (7, (.v (.bool false), []))], [(6, .cells [.slx, .slx] [(0, .ex 110 true (List.map GCell.c e213_.gCells)), (1, .ex 3 true (List.map cI.i64 e213_.gTrail))])], []⟩ _ (by kernel_rfl) .nil ?_
          refine Wc.fix (st' := ⟨[(6, (.ptr 6 0, [])), (7, (.v (.bool false), []))], [(6, .cells [.sl (List.map GCell.c e213_.gCells), .sl (List.map cI.i64 e213_.gTrail)] [])], []⟩) [.sh (.b 6 0), .sh (.b 6 1)] [6, 7] [6] [] (by kernel_rfl) ?_
          refine Wc.ret ?_
          obtain rfl := Option.some.inj h
          exact ⟨.inl rfl, by kernel_rfl, by kernel_rfl⟩
        · obtain ⟨c218_, h227, h⟩ := obind h
          rcases oif h with ⟨h228, h⟩ | ⟨h228, h⟩
          · refine Wc.region [{}, { r := some (.v (.bool g214_) []) }, {}, { re := some (.bool false) }, {}, {}, { r := some (.v (.bool g215_) []) }, {}, {}, { re := some (.bool false) }, {}, {}, { r := some (.v (.bool g216_) []) }, {}, {}, { re := some (.bool false) }, {}, {}, {}, { v := some (.vptr [.int .i64 c217_.gKind, .str c217_.gName, .int .i64 c217_.gNum, .int .i64 c217_.gTo, .sl (List.map cI.i64 c217_.gKids)]) }, {}, {}, {}, {}, { re := some (.bool false) }, {}, {}, {}, { v := some (.vptr [.int .i64 c218_.gKind, .str c218_.gName, .int .i64 c218_.gNum, .int .i64 c218_.gTo, .sl (List.map cI.i64 c218_.gKids)]) }, {}, {}, {}, {}, { re := some (.bool true) }] [] [1, 2, 6, 8, 50] [6, 8] [] ⟨[(1, (.v (.int .i64 b211_), [])), (2, (.v (.int .i64 b212_), [])), (6, (.ptr 6 0, [])), (8, (.ptr 8 0, [])), (50, (.v (.bool true), []))], [(6, .cells [.sl (List.map GCell.c []), .sl (List.map cI.i64 [])] [(0, .app 110), (1, .app 3)]), (8, .cells [.slx, .slx] [(0, .ex 110 true (List.map GCell.c e213_.gCells)), (1, .ex 3 true (List.map cI.i64 e213_.gTrail))])], []⟩ _ (by kernel_rfl) (.cons (cimpl_HeapOk h219) (.cons (congrArg AV.bool h220) (.cons (cimpl_isCell h221) (.cons (congrArg AV.bool h222) (.cons (cimpl_isCell h223) (.cons (congrArg AV.bool h224) (.cons (at_obl (c := GCell.c) (GCell.c_eq c217_) GCell.c_len h225) (.cons (len_ok 1 [.int .i64 c217_.gKind, .str c217_.gName, .int .i64 c217_.gNum, .int .i64 c217_.gTo, .sl (List.map cI.i64 c217_.gKids)]) (.cons (congrArg AV.bool h226) (.cons (at_obl (c := GCell.c) (GCell.c_eq c218_) GCell.c_len h227) (.cons (len_ok 1 [.int .i64 c218_.gTo, .sl (List.map cI.i64 c218_.gKids)]) (.cons (congrArg AV.bool h228) .nil)))))))))))) ?_
            refine Wc.condT rfl (by kernel_rfl) ?_
            refine Wc.seq ?_
            refine Wc.region [{ md := 1 }, { tk := [51] }] [] [6, 7] [6] [] ⟨[(6, (.ptr 6 0, [])), (7, (.v (.bool false), []))], [(6, .cells [.slx, .slx] [(0, .ex 110 true (List.map GCell.c e213_.gCells)), (1, .ex 3 true (List.map cI.i64 e213_.gTrail))])], []⟩ _ (by kernel_rfl) .nil ?_
            refine Wc.fix (st' := ⟨[(6, (.ptr 6 0, [])), (7, (.v (.bool false), []))], [(6, .cells [.sl (List.map GCell.c e213_.gCells), .sl (List.map cI.i64 e213_.gTrail)] [])], []⟩) [.sh (.b 6 0), .sh (.b 6 1)] [6, 7] [6] [] (by kernel_rfl) ?_
            refine Wc.ret ?_
            obtain rfl := Option.some.inj h
            exact ⟨.inl rfl, by kernel_rfl, by kernel_rfl⟩
          · obtain ⟨b219_, h229, h⟩ := obind h
            refine Wc.region [{}, { r := some (.v (.bool g214_) []) }, {}, { re := some (.bool false) }, {}, {}, { r := some (.v (.bool g215_) []) }, {}, {}, { re := some (.bool false) }, {}, {}, { r := some (.v (.bool g216_) []) }, {}, {}, { re := some (.bool false) }, {}, {}, {}, { v := some (.vptr [.int .i64 c217_.gKind, .str c217_.gName, .int .i64 c217_.gNum, .int .i64 c217_.gTo, .sl (List.map cI.i64 c217_.gKids)]) }, {}, {}, {}, {}, { re := some (.bool false) }, {}, {}, {}, { v := some (.vptr [.int .i64 c218_.gKind, .str c218_.gName, .int .i64 c218_.gNum, .int .i64 c218_.gTo, .sl (List.map cI.i64 c218_.gKids)]) }, {}, {}, {}, {}, { re := some (.bool false) }, {}, {}, { r := some (.v (.int .i64 b219_) []) }] [] [1, 2, 6, 8, 50] [6, 8] [] ⟨[(1, (.v (.int .i64 b211_), [])), (2, (.v (.int .i64 b212_), [])), (6, (.ptr 6 0, [])), (8, (.ptr 8 0, [])), (50, (.v (.bool (b219_ == b211_)), []))], [(6, .cells [.sl (List.map GCell.c []), .sl (List.map cI.i64 [])] [(0, .app 110), (1, .app 3)]), (8, .cells [.slx, .slx] [(0, .ex 110 true (List.map GCell.c e213_.gCells)), (1, .ex 3 true (List.map cI.i64 e213_.gTrail))])], []⟩ _ (by kernel_rfl) (.cons (cimpl_HeapOk h219) (.cons (congrArg AV.bool h220) (.cons (cimpl_isCell h221) (.cons (congrArg AV.bool h222) (.cons (cimpl_isCell h223) (.cons (congrArg AV.bool h224) (.cons (at_obl (c := GCell.c) (GCell.c_eq c217_) GCell.c_len h225) (.cons (len_ok 1 [.int .i64 c217_.gKind, .str c217_.gName, .int .i64 c217_.gNum, .int .i64 c217_.gTo, .sl (List.map cI.i64 c217_.gKids)]) (.cons (congrArg AV.bool h226) (.cons (at_obl (c := GCell.c) (GCell.c_eq c218_) GCell.c_len h227) (.cons (len_ok 1 [.int .i64 c218_.gTo, .sl (List.map cI.i64 c218_.gKids)]) (.cons (congrArg AV.bool h228) (.cons (cimpl_follow h229) .nil))))))))))))) ?_
            rcases oif h with ⟨h230, h⟩ | ⟨h230, h⟩
            · refine Wc.condT h230 (by kernel_rfl) ?_
              refine Wc.seq ?_
              refine Wc.region [{ md := 1 }, { tk := [51] }] [] [6, 7] [6] [] ⟨[(6, (.ptr 6 0, [])), (7, (.v (.bool false), []))], [(6, .cells [.slx, .slx] [(0, .ex 110 true (List.map GCell.c e213_.gCells)), (1, .ex 3 true (List.map cI.i64 e213_.gTrail))])], []⟩ _ (by kernel_rfl) .nil ?_
              refine Wc.fix (st' := ⟨[(6, (.ptr 6 0, [])), (7, (.v (.bool false), []))], [(6, .cells [.sl (List.map GCell.c e213_.gCells), .sl (List.map cI.i64 e213_.gTrail)] [])], []⟩) [.sh (.b 6 0), .sh (.b 6 1)] [6, 7] [6] [] (by kernel_rfl) ?_
              refine Wc.ret ?_
              obtain rfl := Option.some.inj h
              exact ⟨.inl rfl, by kernel_rfl, by kernel_rfl⟩
            · refine Wc.condF h230 (by kernel_rfl) ?_
              refine Wc.fix (st' := ⟨[(1, (.v (.int .i64 b211_), [])), (2, (.v (.int .i64 b212_), [])), (6, (.ptr 6 0, [])), (8, (.ptr 8 0, []))], [(6, .cells [.sl (List.map GCell.c []), .sl (List.map cI.i64 [])] [(0, .app 110), (1, .app 3)]), (8, .cells [.slx, .slx] [(0, .ex 110 true (List.map GCell.c e213_.gCells)), (1, .ex 3 true (List.map cI.i64 e213_.gTrail))])], []⟩) [] [1, 2, 6, 8] [6, 8] [] (by kernel_rfl) ?_
              refine Wc.skip ?_
              refine Wc.seq ?_
              obtain ⟨c220_, h231, h⟩ := obind h
              refine Wc.region [{}, {}, {}, {}, {}, {}, { c := some (List.map GCell.c (e213_.gCells.set ((b211_).toNat) (GCell.mk c220_.gKind c220_.gName c220_.gNum b212_ c220_.gKids))) }] [] [1, 6, 8] [6, 8] [] ⟨[(1, (.v (.int .i64 b211_), [])), (6, (.ptr 6 0, [])), (8, (.ptr 8 0, []))], [(6, .cells [.sl (List.map GCell.c []), .sl (List.map cI.i64 [])] [(0, .app 110), (1, .app 3)]), (8, .cells [.slx, .slx] [(0, .ex 110 true (List.map GCell.c (e213_.gCells.set ((b211_).toNat) (GCell.mk c220_.gKind c220_.gName c220_.gNum b212_ c220_.gKids)))), (1, .ex 3 true (List.map cI.i64 e213_.gTrail))])], []⟩ _ (by kernel_rfl) (.cons (ix_obl (c := GCell.c) GCell.c_len h231) (.cons (mod_obl (off := 3) (new := [.int .i64 b212_]) (c := GCell.c) (GCell.c_eq c220_) (GCell.c_eq (GCell.mk c220_.gKind c220_.gName c220_.gNum b212_ c220_.gKids)) (at'_spec h231).2 rfl) (.cons (st_obl (sz := 5) (off := 3) (s := 1) (c := GCell.c) (GCell.c_eq c220_) (at'_spec h231).2 rfl (Nat.le_of_ble_eq_true rfl)) .nil))) ?_
              refine Wc.seq ?_
              obtain ⟨h232, h⟩ := oguard h
              refine Wc.region [{}, { md := 1 }, {}, { c := some (List.map cI.i64 [b211_]) }, { c := some (List.map cI.i64 (e213_.gTrail ++ [b211_])), tk := [59], md := 2 }, {}, { tk := [62] }] [] [6, 8] [6, 8] [] ⟨[(6, (.ptr 6 0, [])), (8, (.ptr 8 0, []))], [(6, .cells [.sl (List.map GCell.c []), .sl (List.map cI.i64 [])] [(0, .app 110), (1, .app 3)]), (8, .cells [.slx, .slx] [(0, .ex 110 true (List.map GCell.c (e213_.gCells.set ((b211_).toNat) (GCell.mk c220_.gKind c220_.gName c220_.gNum b212_ c220_.gKids)))), (1, .ex 3 true (List.map cI.i64 (e213_.gTrail ++ [b211_])))])], []⟩ _ (by kernel_rfl) (.cons (cl_cons (c := cI.i64) (x := b211_) rfl (cl_nil cI.i64)) (.cons (app_re2 cI.i64 e213_.gTrail [b211_]) (.cons (app_scal (c := cI.i64) (ys := [b211_]) cI.i64_scal) (.cons (app_obl2 (c := cI.i64) (xs := e213_.gTrail) (ys := [b211_]) cI.i64_len h232) .nil)))) ?_
              refine Wc.seq ?_
              refine Wc.region [{ md := 1 }, { tk := [64] }] [] [6, 7] [6] [] ⟨[(6, (.ptr 6 0, [])), (7, (.v (.bool true), []))], [(6, .cells [.slx, .slx] [(0, .ex 110 true (List.map GCell.c (e213_.gCells.set ((b211_).toNat) (GCell.mk c220_.gKind c220_.gName c220_.gNum b212_ c220_.gKids)))), (1, .ex 3 true (List.map cI.i64 (e213_.gTrail ++ [b211_])))])], []⟩ _ (by kernel_rfl) .nil ?_
              refine Wc.fix (st' := ⟨[(6, (.ptr 6 0, [])), (7, (.v (.bool true), []))], [(6, .cells [.sl (List.map GCell.c (e213_.gCells.set ((b211_).toNat) (GCell.mk c220_.gKind c220_.gName c220_.gNum b212_ c220_.gKids))), .sl (List.map cI.i64 (e213_.gTrail ++ [b211_]))] [])], []⟩) [.sh (.b 6 0), .sh (.b 6 1)] [6, 7] [6] [] (by kernel_rfl) ?_
              refine Wc.ret ?_
              obtain rfl := Option.some.inj h
              exact ⟨.inl rfl, by kernel_rfl, by kernel_rfl⟩

def plaws_eqIntS_L1 (k : Nat) (a221_ : List Int) (a222_ : List Int) : Nat → Int → Option (Out Bool Unit)
  | 0, _ => none
  | m + 1, b223_ =>
    if (decide (b223_ < (a221_.length : Int))) = true then
      (at' a221_ b223_).bind fun b224_ =>
      (at' a222_ b223_).bind fun b225_ =>
      if (b224_ != b225_) = true then
        some (.ret false)
      else
        plaws_eqIntS_L1 k a221_ a222_ m (wr.i64 (b223_ + 1))
    else
      some (.done ())
/-- laws.eqIntS -/
def plaws_eqIntS (k : Nat) (a221_ : List Int) (a222_ : List Int) : Option Bool :=
  if ((a221_.length : Int) != (a222_.length : Int)) = true then
    some false
  else
    (plaws_eqIntS_L1 k a221_ a222_ k 0).bind fun out1 => match out1 with
    | .ret r => some r
    | .done () =>
      some true
theorem claws_eqIntS {k : Nat} {a221_ : List Int} {a222_ : List Int} {r : Bool} (h : plaws_eqIntS k a221_ a222_ = some r) : FnO Try.prog 32 [.v (.sl (List.map cI.i64 a221_)) [], .v (.sl (List.map cI.i64 a222_)) []] (.v (.bool r) []) [] := by
  refine FnO.of Try.func32 (rfl : Try.f32.body = some _) (Nat.le_of_ble_eq_true (by kernel_rfl)) (Nat.le_of_ble_eq_true (by kernel_rfl)) ?_
  intro w0 X0 Fin pv0 pb
  unfold plaws_eqIntS at h
  refine Wc.seq ?_
  refine Wc.region [] [] [0, 1] [] [] ⟨[(0, (.v (.sl (List.map cI.i64 a221_)), [])), (1, (.v (.sl (List.map cI.i64 a222_)), []))], [], []⟩ _ (by kernel_rfl) .nil ?_
  refine Wc.seq ?_
  refine Wc.seq ?_
  refine Wc.region [{}, { v := some (.int .i64 (a221_.length : Int)) }, {}, { v := some (.int .i64 (a222_.length : Int)) }] [] [0, 1, 10] [] [] ⟨[(0, (.v (.sl (List.map cI.i64 a221_)), [])), (1, (.v (.sl (List.map cI.i64 a222_)), [])), (10, (.v (.bool ((a221_.length : Int) != (a222_.length : Int))), []))], [], []⟩ _ (by kernel_rfl) (.cons (len_obl cI.i64 a221_) (.cons (len_obl cI.i64 a222_) .nil)) ?_
  rcases oif h with ⟨h233, h⟩ | ⟨h233, h⟩
  · refine Wc.condT h233 (by kernel_rfl) ?_
    refine Wc.seq ?_
    refine Wc.region [] [] [4] [] [] ⟨[(4, (.v (.bool false), []))], [], []⟩ _ (by kernel_rfl) .nil ?_
    refine Wc.ret ?_
    obtain rfl := Option.some.inj h
    exact ⟨.inl rfl, by kernel_rfl, by kernel_rfl⟩
  · refine Wc.condF h233 (by kernel_rfl) ?_
    refine Wc.fix (st' := ⟨[(0, (.v (.sl (List.map cI.i64 a221_)), [])), (1, (.v (.sl (List.map cI.i64 a222_)), []))], [], []⟩) [] [0, 1] [] [] (by kernel_rfl) ?_
    refine Wc.skip ?_
    refine Wc.seq ?_
    refine Wc.seq ?_
    refine Wc.region [] [] [0, 1, 5] [] [] ⟨[(0, (.v (.sl (List.map cI.i64 a221_)), [])), (1, (.v (.sl (List.map cI.i64 a222_)), [])), (5, (.v (.int .i64 0), []))], [], []⟩ _ (by kernel_rfl) .nil ?_
    obtain ⟨out1, h234, h⟩ := obind h
    refine Wc.lastJ (fun st => out1 = .done () ∧ st = ⟨[], [], []⟩) ?_ ?_
    · refine Wc.block ?_
      refine Wc.loop (fun m st => ∃ (b223_ : Int), st = ⟨[(0, (.v (.sl (List.map cI.i64 a221_)), [])), (1, (.v (.sl (List.map cI.i64 a222_)), [])), (5, (.v (.int .i64 b223_), []))], [], []⟩ ∧ plaws_eqIntS_L1 k a221_ a222_ m b223_ = some out1) ?_ k ⟨_, rfl, h234⟩
      rintro m st ⟨b223_, rfl, h234⟩
      cases m with
      | zero => exact (onone h234).elim
      | succ m =>
        refine Wc.seq ?_
        refine Wc.seq ?_
        refine Wc.region [{}, {}, { v := some (.int .i64 (a221_.length : Int)) }] [] [0, 1, 5, 14] [] [] ⟨[(0, (.v (.sl (List.map cI.i64 a221_)), [])), (1, (.v (.sl (List.map cI.i64 a222_)), [])), (5, (.v (.int .i64 b223_), [])), (14, (.v (.bool (decide (b223_ < (a221_.length : Int)))), []))], [], []⟩ _ (by kernel_rfl) (.cons (len_obl cI.i64 a221_) .nil) ?_
        rcases oif h234 with ⟨h235, h234⟩ | ⟨h235, h234⟩
        · refine Wc.condT h235 (by kernel_rfl) ?_
          refine Wc.fix (st' := ⟨[(0, (.v (.sl (List.map cI.i64 a221_)), [])), (1, (.v (.sl (List.map cI.i64 a222_)), [])), (5, (.v (.int .i64 b223_), []))], [], []⟩) [] [0, 1, 5] [] [] (by kernel_rfl) ?_
          refine Wc.skip ?_
          refine Wc.seq ?_
          refine Wc.block ?_
          refine Wc.seq ?_
          obtain ⟨b224_, h236, h234⟩ := obind h234
          obtain ⟨b225_, h237, h234⟩ := obind h234
          refine Wc.draw hmix [{}, {}, { v := some (.vptr [.int .i64 b224_]) }, {}, {}, {}, { v := some (.vptr [.int .i64 b225_]) }] [] [0, 1, 5, 25] [] [] ⟨[(0, (.v (.sl (List.map cI.i64 a221_)), [])), (1, (.v (.sl (List.map cI.i64 a222_)), [])), (5, (.v (.int .i64 b223_), [])), (25, (.v (.bool (b224_ != b225_)), []))], [], []⟩ _ (by kernel_rfl) (fun X => by kernel_rfl) (.cons (at_obl (c := cI.i64) rfl cI.i64_len h236) (.cons (len_ok 1 [.int .i64 b224_]) (.cons (at_obl (c := cI.i64) rfl cI.i64_len h237) (.cons (len_ok 1 [.int .i64 b225_]) .nil)))) ?_
          rcases oif h234 with ⟨h238, h234⟩ | ⟨h238, h234⟩
          · refine Wc.condT h238 (by kernel_rfl) ?_
            refine Wc.seq ?_
            refine Wc.region [] [] [4] [] [] ⟨[(4, (.v (.bool false), []))], [], []⟩ _ (by kernel_rfl) .nil ?_
            refine Wc.ret ?_
            obtain rfl := Option.some.inj h234
            obtain rfl := Option.some.inj h
            exact ⟨.inl rfl, by kernel_rfl, by kernel_rfl⟩
          · refine Wc.condF h238 (by kernel_rfl) ?_
            refine Wc.fix (st' := ⟨[(0, (.v (.sl (List.map cI.i64 a221_)), [])), (1, (.v (.sl (List.map cI.i64 a222_)), [])), (5, (.v (.int .i64 b223_), []))], [], []⟩) [] [0, 1, 5] [] [] (by kernel_rfl) ?_
            refine Wc.skip ?_
            refine Wc.region [] [] [0, 1, 5] [] [] ⟨[(0, (.v (.sl (List.map cI.i64 a221_)), [])), (1, (.v (.sl (List.map cI.i64 a222_)), [])), (5, (.v (.int .i64 (wr.i64 (b223_ + 1))), []))], [], []⟩ _ (by kernel_rfl) .nil ?_
            exact ⟨_, Nat.lt_succ_self _, _, rfl, h234⟩
        · refine Wc.condF h235 (by kernel_rfl) ?_
          refine Wc.fix (st' := ⟨[], [], []⟩) [] [] [] [] (by kernel_rfl) ?_
          refine Wc.exit ?_
          obtain rfl := Option.some.inj h234
          exact ⟨rfl, rfl⟩
    · rintro st ⟨rfl, rfl⟩
      refine Wc.seq ?_
      refine Wc.region [] [] [4] [] [] ⟨[(4, (.v (.bool true), []))], [], []⟩ _ (by kernel_rfl) .nil ?_
      refine Wc.ret ?_
      obtain rfl := Option.some.inj h
      exact ⟨.inl rfl, by kernel_rfl, by kernel_rfl⟩

/-- laws.eqCell -/
def plaws_eqCell (k : Nat) (c226_ : GCell) (c227_ : GCell) : Option Bool :=
  if (c226_.gKind != c227_.gKind) = true then
    some false
  else
    if (!(sEq c226_.gName c227_.gName)) = true then
      some false
    else
      if (c226_.gNum != c227_.gNum) = true then
        some false
      else
        if (c226_.gTo != c227_.gTo) = true then
          some false
        else
          (plaws_eqIntS k c226_.gKids c227_.gKids).bind fun g228_ =>
          if (!g228_) = true then
            some false
          else
            some true
theorem claws_eqCell {k : Nat} {c226_ : GCell} {c227_ : GCell} {r : Bool} (h : plaws_eqCell k c226_ c227_ = some r) : FnO Try.prog 120 [.v (.agg [.int .i64 c226_.gKind, .str c226_.gName, .int .i64 c226_.gNum, .int .i64 c226_.gTo, .sl (List.map cI.i64 c226_.gKids)]) [], .v (.agg [.int .i64 c227_.gKind, .str c227_.gName, .int .i64 c227_.gNum, .int .i64 c227_.gTo, .sl (List.map cI.i64 c227_.gKids)]) []] (.v (.bool r) []) [] := by
  refine FnO.of Try.func120 (rfl : Try.f120.body = some _) (Nat.le_of_ble_eq_true (by kernel_rfl)) (Nat.le_of_ble_eq_true (by kernel_rfl)) ?_
  intro w0 X0 Fin pv0 pb
  unfold plaws_eqCell at h
  refine Wc.seq ?_
  refine Wc.region [] [] [2, 3] [2, 3] [] ⟨[(2, (.ptr 2 0, [])), (3, (.ptr 3 0, []))], [(2, .cells [.int .i64 c226_.gKind, .str c226_.gName, .int .i64 c226_.gNum, .int .i64 c226_.gTo, .sl (List.map cI.i64 c226_.gKids)] []), (3, .cells [.int .i64 c227_.gKind, .str c227_.gName, .int .i64 c227_.gNum, .int .i64 c227_.gTo, .sl (List.map cI.i64 c227_.gKids)] [])], []⟩ _ (by kernel_rfl) .nil ?_
  refine Wc.seq ?_
  refine Wc.seq ?_
  refine Wc.region [] [] [2, 3, 9] [2, 3] [] ⟨[(2, (.ptr 2 0, [])), (3, (.ptr 3 0, [])), (9, (.v (.bool (c226_.gKind != c227_.gKind)), []))], [(2, .cells [.int .i64 c226_.gKind, .str c226_.gName, .int .i64 c226_.gNum, .int .i64 c226_.gTo, .sl (List.map cI.i64 c226_.gKids)] []), (3, .cells [.int .i64 c227_.gKind, .str c227_.gName, .int .i64 c227_.gNum, .int .i64 c227_.gTo, .sl (List.map cI.i64 c227_.gKids)] [])], []⟩ _ (by kernel_rfl) .nil ?_
  rcases oif h with ⟨h239, h⟩ | ⟨h239, h⟩
  · refine Wc.condT h239 (by kernel_rfl) ?_
    refine Wc.seq ?_
    refine Wc.region [] [] [4] [] [] ⟨[(4, (.v (.bool false), []))], [], []⟩ _ (by kernel_rfl) .nil ?_
    refine Wc.ret ?_
    obtain rfl := Option.some.inj h
    exact ⟨.inl rfl, by kernel_rfl, by kernel_rfl⟩
  · refine Wc.condF h239 (by kernel_rfl) ?_
    refine Wc.fix (st' := ⟨[(2, (.ptr 2 0, [])), (3, (.ptr 3 0, []))], [(2, .cells [.int .i64 c226_.gKind, .str c226_.gName, .int .i64 c226_.gNum, .int .i64 c226_.gTo, .sl (List.map cI.i64 c226_.gKids)] []), (3, .cells [.int .i64 c227_.gKind, .str c227_.gName, .int .i64 c227_.gNum, .int .i64 c227_.gTo, .sl (List.map cI.i64 c227_.gKids)] [])], []⟩) [] [2, 3] [2, 3] [] (by kernel_rfl) ?_
    refine Wc.skip ?_
    refine Wc.seq ?_
    refine Wc.seq ?_
    refine Wc.region [] [] [2, 3, 14] [2, 3] [] ⟨[(2, (.ptr 2 0, [])), (3, (.ptr 3 0, [])), (14, (.v (.bool (!(sEq c226_.gName c227_.gName))), []))], [(2, .cells [.int .i64 c226_.gKind, .str c226_.gName, .int .i64 c226_.gNum, .int .i64 c226_.gTo, .sl (List.map cI.i64 c226_.gKids)] []), (3, .cells [.int .i64 c227_.gKind, .str c227_.gName, .int .i64 c227_.gNum, .int .i64 c227_.gTo, .sl (List.map cI.i64 c227_.gKids)] [])], []⟩ _ (by kernel_rfl) .nil ?_
    rcases oif h with ⟨h240, h⟩ | ⟨h240, h⟩
    · refine Wc.condT h240 (by kernel_rfl) ?_
      refine Wc.seq ?_
      refine Wc.region [] [] [4] [] [] ⟨[(4, (.v (.bool false), []))], [], []⟩ _ (by kernel_rfl) .nil ?_
      refine Wc.ret ?_
      obtain rfl := Option.some.inj h
      exact ⟨.inl rfl, by kernel_rfl, by kernel_rfl⟩
    · refine Wc.condF h240 (by kernel_rfl) ?_
      refine Wc.fix (st' := ⟨[(2, (.ptr 2 0, [])), (3, (.ptr 3 0, []))], [(2, .cells [.int .i64 c226_.gKind, .str c226_.gName, .int .i64 c226_.gNum, .int .i64 c226_.gTo, .sl (List.map cI.i64 c226_.gKids)] []), (3, .cells [.int .i64 c227_.gKind, .str c227_.gName, .int .i64 c227_.gNum, .int .i64 c227_.gTo, .sl (List.map cI.i64 c227_.gKids)] [])], []⟩) [] [2, 3] [2, 3] [] (by kernel_rfl) ?_
      refine Wc.skip ?_
      refine Wc.seq ?_
      refine Wc.seq ?_
      refine Wc.region [] [] [2, 3, 19] [2, 3] [] ⟨[(2, (.ptr 2 0, [])), (3, (.ptr 3 0, [])), (19, (.v (.bool (c226_.gNum != c227_.gNum)), []))], [(2, .cells [.int .i64 c226_.gKind, .str c226_.gName, .int .i64 c226_.gNum, .int .i64 c226_.gTo, .sl (List.map cI.i64 c226_.gKids)] []), (3, .cells [.int .i64 c227_.gKind, .str c227_.gName, .int .i64 c227_.gNum, .int .i64 c227_.gTo, .sl (List.map cI.i64 c227_.gKids)] [])], []⟩ _ (by kernel_rfl) .nil ?_
      rcases oif h with ⟨h241, h⟩ | ⟨h241, h⟩
      · refine Wc.condT h241 (by kernel_rfl) ?_
        refine Wc.seq ?_
        refine Wc.region [] [] [4] [] [] ⟨[(4, (.v (.bool false), []))], [], []⟩ _ (by kernel_rfl) .nil ?_
        refine Wc.ret ?_
        obtain rfl := Option.some.inj h
        exact ⟨.inl rfl, by kernel_rfl, by kernel_rfl⟩
      · refine Wc.condF h241 (by kernel_rfl) ?_
        refine Wc.fix (st' := ⟨[(2, (.ptr 2 0, [])), (3, (.ptr 3 0, []))], [(2, .cells [.int .i64 c226_.gKind, .str c226_.gName, .int .i64 c226_.gNum, .int .i64 c226_.gTo, .sl (List.map cI.i64 c226_.gKids)] []), (3, .cells [.int .i64 c227_.gKind, .str c227_.gName, .int .i64 c227_.gNum, .int .i64 c227_.gTo, .sl (List.map cI.i64 c227_.gKids)] [])], []⟩) [] [2, 3] [2, 3] [] (by kernel_rfl) ?_
        refine Wc.skip ?_
        refine Wc.seq ?_
        refine Wc.seq ?_
        refine Wc.region [] [] [2, 3, 24] [2, 3] [] ⟨[(2, (.ptr 2 0, [])), (3, (.ptr 3 0, [])), (24, (.v (.bool (c226_.gTo != c227_.gTo)), []))], [(2, .cells [.int .i64 c226_.gKind, .str c226_.gName, .int .i64 c226_.gNum, .int .i64 c226_.gTo, .sl (List.map cI.i64 c226_.gKids)] []), (3, .cells [.int .i64 c227_.gKind, .str c227_.gName, .int .i64 c227_.gNum, .int .i64 c227_.gTo, .sl (List.map cI.i64 c227_.gKids)] [])], []⟩ _ (by kernel_rfl) .nil ?_
        rcases oif h with ⟨h242, h⟩ | ⟨h242, h⟩
        · refine Wc.condT h242 (by kernel_rfl) ?_
          refine Wc.seq ?_
          refine Wc.region [] [] [4] [] [] ⟨[(4, (.v (.bool false), []))], [], []⟩ _ (by kernel_rfl) .nil ?_
          refine Wc.ret ?_
          obtain rfl := Option.some.inj h
          exact ⟨.inl rfl, by kernel_rfl, by kernel_rfl⟩
        · refine Wc.condF h242 (by kernel_rfl) ?_
          refine Wc.fix (st' := ⟨[(2, (.ptr 2 0, [])), (3, (.ptr 3 0, []))], [(2, .cells [.int .i64 c226_.gKind, .str c226_.gName, .int .i64 c226_.gNum, .int .i64 c226_.gTo, .sl (List.map cI.i64 c226_.gKids)] []), (3, .cells [.int .i64 c227_.gKind, .str c227_.gName, .int .i64 c227_.gNum, .int .i64 c227_.gTo, .sl (List.map cI.i64 c227_.gKids)] [])], []⟩) [] [2, 3] [2, 3] [] (by kernel_rfl) ?_
          refine Wc.skip ?_
          refine Wc.seq ?_
          refine Wc.seq ?_
          obtain ⟨g228_, h243, h⟩ := obind h
          refine Wc.region [{}, {}, {}, {}, { r := some (.v (.bool g228_) []) }] [] [30] [] [] ⟨[(30, (.v (.bool (!g228_)), []))], [], []⟩ _ (by kernel_rfl) (.cons (claws_eqIntS h243) .nil) ?_
          rcases oif h with ⟨h244, h⟩ | ⟨h244, h⟩
          · refine Wc.condT h244 (by kernel_rfl) ?_
            refine Wc.seq ?_
            refine Wc.region [] [] [4] [] [] ⟨[(4, (.v (.bool false), []))], [], []⟩ _ (by kernel_rfl) .nil ?_
            refine Wc.ret ?_
            obtain rfl := Option.some.inj h
            exact ⟨.inl rfl, by kernel_rfl, by kernel_rfl⟩
          · refine Wc.condF h244 (by kernel_rfl) ?_
            refine Wc.fix (st' := ⟨[], [], []⟩) [] [] [] [] (by kernel_rfl) ?_
            refine Wc.skip ?_
            refine Wc.seq ?_
            refine Wc.region [] [] [4] [] [] ⟨[(4, (.v (.bool true), []))], [], []⟩ _ (by kernel_rfl) .nil ?_
            refine Wc.ret ?_
            obtain rfl := Option.some.inj h
            exact ⟨.inl rfl, by kernel_rfl, by kernel_rfl⟩

def plaws_eqCellS_L1 (k : Nat) (d229_ : List GCell) (d230_ : List GCell) : Nat → Int → Option (Out Bool Unit)
  | 0, _ => none
  | m + 1, b231_ =>
    if (decide (b231_ < (d229_.length : Int))) = true then
      (at' d229_ b231_).bind fun c232_ =>
      (at' d230_ b231_).bind fun c233_ =>
      (plaws_eqCell k c232_ c233_).bind fun g234_ =>
      if (!g234_) = true then
        some (.ret false)
      else
        plaws_eqCellS_L1 k d229_ d230_ m (wr.i64 (b231_ + 1))
    else
      some (.done ())
/-- laws.eqCellS -/
def plaws_eqCellS (k : Nat) (d229_ : List GCell) (d230_ : List GCell) : Option Bool :=
  if ((d229_.length : Int) != (d230_.length : Int)) = true then
    some false
  else
    (plaws_eqCellS_L1 k d229_ d230_ k 0).bind fun out1 => match out1 with
    | .ret r => some r
    | .done () =>
      some true
theorem claws_eqCellS {k : Nat} {d229_ : List GCell} {d230_ : List GCell} {r : Bool} (h : plaws_eqCellS k d229_ d230_ = some r) : FnO Try.prog 83 [.v (.sl (List.map GCell.c d229_)) [], .v (.sl (List.map GCell.c d230_)) []] (.v (.bool r) []) [] := by
  refine FnO.of Try.func83 (rfl : Try.f83.body = some _) (Nat.le_of_ble_eq_true (by kernel_rfl)) (Nat.le_of_ble_eq_true (by kernel_rfl)) ?_
  intro w0 X0 Fin pv0 pb
  unfold plaws_eqCellS at h
  refine Wc.seq ?_
  refine Wc.region [] [] [0, 1] [] [] ⟨[(0, (.v (.sl (List.map GCell.c d229_)), [])), (1, (.v (.sl (List.map GCell.c d230_)), []))], [], []⟩ _ (by kernel_rfl) .nil ?_
  refine Wc.seq ?_
  refine Wc.seq ?_
  refine Wc.region [{}, { v := some (.int .i64 (d229_.length : Int)) }, {}, { v := some (.int .i64 (d230_.length : Int)) }] [] [0, 1, 10] [] [] ⟨[(0, (.v (.sl (List.map GCell.c d229_)), [])), (1, (.v (.sl (List.map GCell.c d230_)), [])), (10, (.v (.bool ((d229_.length : Int) != (d230_.length : Int))), []))], [], []⟩ _ (by kernel_rfl) (.cons (len_obl GCell.c d229_) (.cons (len_obl GCell.c d230_) .nil)) ?_
  rcases oif h with ⟨h245, h⟩ | ⟨h245, h⟩
  · refine Wc.condT h245 (by kernel_rfl) ?_
    refine Wc.seq ?_
    refine Wc.region [] [] [4] [] [] ⟨[(4, (.v (.bool false), []))], [], []⟩ _ (by kernel_rfl) .nil ?_
    refine Wc.ret ?_
    obtain rfl := Option.some.inj h
    exact ⟨.inl rfl, by kernel_rfl, by kernel_rfl⟩
  · refine Wc.condF h245 (by kernel_rfl) ?_
    refine Wc.fix (st' := ⟨[(0, (.v (.sl (List.map GCell.c d229_)), [])), (1, (.v (.sl (List.map GCell.c d230_)), []))], [], []⟩) [] [0, 1] [] [] (by kernel_rfl) ?_
    refine Wc.skip ?_
    refine Wc.seq ?_
    refine Wc.seq ?_
    refine Wc.region [] [] [0, 1, 5] [] [] ⟨[(0, (.v (.sl (List.map GCell.c d229_)), [])), (1, (.v (.sl (List.map GCell.c d230_)), [])), (5, (.v (.int .i64 0), []))], [], []⟩ _ (by kernel_rfl) .nil ?_
    obtain ⟨out1, h246, h⟩ := obind h
    refine Wc.lastJ (fun st => out1 = .done () ∧ st = ⟨[], [], []⟩) ?_ ?_
    · refine Wc.block ?_
      refine Wc.loop (fun m st => ∃ (b231_ : Int), st = ⟨[(0, (.v (.sl (List.map GCell.c d229_)), [])), (1, (.v (.sl (List.map GCell.c d230_)), [])), (5, (.v (.int .i64 b231_), []))], [], []⟩ ∧ plaws_eqCellS_L1 k d229_ d230_ m b231_ = some out1) ?_ k ⟨_, rfl, h246⟩
      rintro m st ⟨b231_, rfl, h246⟩
      cases m with
      | zero => exact (onone h246).elim
      | succ m =>
        refine Wc.seq ?_
        refine Wc.seq ?_
        refine Wc.region [{}, {}, { v := some (.int .i64 (d229_.length : Int)) }] [] [0, 1, 5, 14] [] [] ⟨[(0, (.v (.sl (List.map GCell.c d229_)), [])), (1, (.v (.sl (List.map GCell.c d230_)), [])), (5, (.v (.int .i64 b231_), [])), (14, (.v (.bool (decide (b231_ < (d229_.length : Int)))), []))], [], []⟩ _ (by kernel_rfl) (.cons (len_obl GCell.c d229_) .nil) ?_
        rcases oif h246 with ⟨h247, h246⟩ | ⟨h247, h246⟩
        · refine Wc.condT h247 (by kernel_rfl) ?_
          refine Wc.fix (st' := ⟨[(0, (.v (.sl (List.map GCell.c d229_)), [])), (1, (.v (.sl (List.map GCell.c d230_)), [])), (5, (.v (.int .i64 b231_), []))], [], []⟩) [] [0, 1, 5] [] [] (by kernel_rfl) ?_
          refine Wc.skip ?_
          refine Wc.seq ?_
          refine Wc.block ?_
          refine Wc.seq ?_
          obtain ⟨c232_, h248, h246⟩ := obind h246
          obtain ⟨c233_, h249, h246⟩ := obind h246
          obtain ⟨g234_, h250, h246⟩ := obind h246
          refine Wc.draw hmix [{}, {}, { v := some (.vptr [.int .i64 c232_.gKind, .str c232_.gName, .int .i64 c232_.gNum, .int .i64 c232_.gTo, .sl (List.map cI.i64 c232_.gKids)]) }, {}, {}, {}, { v := some (.vptr [.int .i64 c233_.gKind, .str c233_.gName, .int .i64 c233_.gNum, .int .i64 c233_.gTo, .sl (List.map cI.i64 c233_.gKids)]) }, {}, { r := some (.v (.bool g234_) []) }] [] [0, 1, 5, 26] [] [] ⟨[(0, (.v (.sl (List.map GCell.c d229_)), [])), (1, (.v (.sl (List.map GCell.c d230_)), [])), (5, (.v (.int .i64 b231_), [])), (26, (.v (.bool (!g234_)), []))], [], []⟩ _ (by kernel_rfl) (fun X => by kernel_rfl) (.cons (at_obl (c := GCell.c) (GCell.c_eq c232_) GCell.c_len h248) (.cons (len_ok 5 [.int .i64 c232_.gKind, .str c232_.gName, .int .i64 c232_.gNum, .int .i64 c232_.gTo, .sl (List.map cI.i64 c232_.gKids)]) (.cons (at_obl (c := GCell.c) (GCell.c_eq c233_) GCell.c_len h249) (.cons (len_ok 5 [.int .i64 c233_.gKind, .str c233_.gName, .int .i64 c233_.gNum, .int .i64 c233_.gTo, .sl (List.map cI.i64 c233_.gKids)]) (.cons (claws_eqCell h250) .nil))))) ?_
          rcases oif h246 with ⟨h251, h246⟩ | ⟨h251, h246⟩
          · refine Wc.condT h251 (by kernel_rfl) ?_
            refine Wc.seq ?_
            refine Wc.region [] [] [4] [] [] ⟨[(4, (.v (.bool false), []))], [], []⟩ _ (by kernel_rfl) .nil ?_
            refine Wc.ret ?_
            obtain rfl := Option.some.inj h246
            obtain rfl := Option.some.inj h
            exact ⟨.inl rfl, by kernel_rfl, by kernel_rfl⟩
          · refine Wc.condF h251 (by kernel_rfl) ?_
            refine Wc.fix (st' := ⟨[(0, (.v (.sl (List.map GCell.c d229_)), [])), (1, (.v (.sl (List.map GCell.c d230_)), [])), (5, (.v (.int .i64 b231_), []))], [], []⟩) [] [0, 1, 5] [] [] (by kernel_rfl) ?_
            refine Wc.skip ?_
            refine Wc.region [] [] [0, 1, 5] [] [] ⟨[(0, (.v (.sl (List.map GCell.c d229_)), [])), (1, (.v (.sl (List.map GCell.c d230_)), [])), (5, (.v (.int .i64 (wr.i64 (b231_ + 1))), []))], [], []⟩ _ (by kernel_rfl) .nil ?_
            exact ⟨_, Nat.lt_succ_self _, _, rfl, h246⟩
        · refine Wc.condF h247 (by kernel_rfl) ?_
          refine Wc.fix (st' := ⟨[], [], []⟩) [] [] [] [] (by kernel_rfl) ?_
          refine Wc.exit ?_
          obtain rfl := Option.some.inj h246
          exact ⟨rfl, rfl⟩
    · rintro st ⟨rfl, rfl⟩
      refine Wc.seq ?_
      refine Wc.region [] [] [4] [] [] ⟨[(4, (.v (.bool true), []))], [], []⟩ _ (by kernel_rfl) .nil ?_
      refine Wc.ret ?_
      obtain rfl := Option.some.inj h
      exact ⟨.inl rfl, by kernel_rfl, by kernel_rfl⟩

/-- laws.eqHeap -/
def plaws_eqHeap (k : Nat) (e235_ : GHeap) (e236_ : GHeap) : Option Bool :=
  (plaws_eqCellS k e235_.gCells e236_.gCells).bind fun g237_ =>
  if (!g237_) = true then
    some false
  else
    (plaws_eqIntS k e235_.gTrail e236_.gTrail).bind fun g238_ =>
    if (!g238_) = true then
      some false
    else
      some true
theorem claws_eqHeap {k : Nat} {e235_ : GHeap} {e236_ : GHeap} {r : Bool} (h : plaws_eqHeap k e235_ e236_ = some r) : FnO Try.prog 40 [.v (.agg [.sl (List.map GCell.c e235_.gCells), .sl (List.map cI.i64 e235_.gTrail)]) [], .v (.agg [.sl (List.map GCell.c e236_.gCells), .sl (List.map cI.i64 e236_.gTrail)]) []] (.v (.bool r) []) [] := by
  refine FnO.of Try.func40 (rfl : Try.f40.body = some _) (Nat.le_of_ble_eq_true (by kernel_rfl)) (Nat.le_of_ble_eq_true (by kernel_rfl)) ?_
  intro w0 X0 Fin pv0 pb
  unfold plaws_eqHeap at h
  refine Wc.seq ?_
  refine Wc.region [] [] [2, 3] [2, 3] [] ⟨[(2, (.ptr 2 0, [])), (3, (.ptr 3 0, []))], [(2, .cells [.sl (List.map GCell.c e235_.gCells), .sl (List.map cI.i64 e235_.gTrail)] []), (3, .cells [.sl (List.map GCell.c e236_.gCells), .sl (List.map cI.i64 e236_.gTrail)] [])], []⟩ _ (by kernel_rfl) .nil ?_
  refine Wc.seq ?_
  refine Wc.seq ?_
  obtain ⟨g237_, h252, h⟩ := obind h
  refine Wc.region [{}, {}, {}, {}, { r := some (.v (.bool g237_) []) }] [] [2, 3, 10] [2, 3] [] ⟨[(2, (.ptr 2 0, [])), (3, (.ptr 3 0, [])), (10, (.v (.bool (!g237_)), []))], [(2, .cells [.sl (List.map GCell.c e235_.gCells), .sl (List.map cI.i64 e235_.gTrail)] []), (3, .cells [.sl (List.map GCell.c e236_.gCells), .sl (List.map cI.i64 e236_.gTrail)] [])], []⟩ _ (by kernel_rfl) (.cons (claws_eqCellS h252) .nil) ?_
  rcases oif h with ⟨h253, h⟩ | ⟨h253, h⟩
  · refine Wc.condT h253 (by kernel_rfl) ?_
    refine Wc.seq ?_
    refine Wc.region [] [] [4] [] [] ⟨[(4, (.v (.bool false), []))], [], []⟩ _ (by kernel_rfl) .nil ?_
    refine Wc.ret ?_
    obtain rfl := Option.some.inj h
    exact ⟨.inl rfl, by kernel_rfl, by kernel_rfl⟩
  · refine Wc.condF h253 (by kernel_rfl) ?_
    refine Wc.fix (st' := ⟨[(2, (.ptr 2 0, [])), (3, (.ptr 3 0, []))], [(2, .cells [.sl (List.map GCell.c e235_.gCells), .sl (List.map cI.i64 e235_.gTrail)] []), (3, .cells [.sl (List.map GCell.c e236_.gCells), .sl (List.map cI.i64 e236_.gTrail)] [])], []⟩) [] [2, 3] [2, 3] [] (by kernel_rfl) ?_
    refine Wc.skip ?_
    refine Wc.seq ?_
    refine Wc.seq ?_
    obtain ⟨g238_, h254, h⟩ := obind h
    refine Wc.region [{}, {}, {}, {}, { r := some (.v (.bool g238_) []) }] [] [16] [] [] ⟨[(16, (.v (.bool (!g238_)), []))], [], []⟩ _ (by kernel_rfl) (.cons (claws_eqIntS h254) .nil) ?_
    rcases oif h with ⟨h255, h⟩ | ⟨h255, h⟩
    · refine Wc.condT h255 (by kernel_rfl) ?_
      refine Wc.seq ?_
      refine Wc.region [] [] [4] [] [] ⟨[(4, (.v (.bool false), []))], [], []⟩ _ (by kernel_rfl) .nil ?_
      refine Wc.ret ?_
      obtain rfl := Option.some.inj h
      exact ⟨.inl rfl, by kernel_rfl, by kernel_rfl⟩
    · refine Wc.condF h255 (by kernel_rfl) ?_
      refine Wc.fix (st' := ⟨[], [], []⟩) [] [] [] [] (by kernel_rfl) ?_
      refine Wc.skip ?_
      refine Wc.seq ?_
      refine Wc.region [] [] [4] [] [] ⟨[(4, (.v (.bool true), []))], [], []⟩ _ (by kernel_rfl) .nil ?_
      refine Wc.ret ?_
      obtain rfl := Option.some.inj h
      exact ⟨.inl rfl, by kernel_rfl, by kernel_rfl⟩

def plaws_markIntS_L1 (k : Nat) : Nat → Int → Int → (List Int) → Option (Out ((List Int) × Int) (Int × (List Int)))
  | 0, _, _, _ => none
  | m + 1, b241_, b242_, a243_ =>
    if (decide (b242_ < (a243_.length : Int))) = true then
      (at' a243_ b242_).bind fun b246_ =>
      plaws_markIntS_L1 k m (wr.i64 (b241_ + 1)) (wr.i64 (b242_ + 1)) (a243_.set ((b242_).toNat) b241_)
    else
      some (.done (b241_, a243_))
/-- laws.markIntS -/
def plaws_markIntS (k : Nat) (a239_ : List Int) (b240_ : Int) : Option ((List Int) × Int) :=
  (plaws_markIntS_L1 k k b240_ 0 a239_).bind fun out1 => match out1 with
  | .ret r => some r
  | .done (b244_, a245_) =>
    some (a245_, b244_)
theorem claws_markIntS {k : Nat} {a239_ : List Int} {b240_ : Int} {r : (List Int) × Int} (h : plaws_markIntS k a239_ b240_ = some r) : FnO Try.prog 33 [.io (.slx) [(0, .ex 1000000007 true (List.map cI.i64 a239_))], .v (.int .i64 b240_) []] (.v (.int .i64 r.2) []) [(0, .v .undef [(0, .ex 1000000007 true (List.map cI.i64 r.1))])] := by
  refine FnO.of Try.func33 (rfl : Try.f33.body = some _) (Nat.le_of_ble_eq_true (by kernel_rfl)) (Nat.le_of_ble_eq_true (by kernel_rfl)) ?_
  intro w0 X0 Fin pv0 pb
  unfold plaws_markIntS at h
  refine Wc.seq ?_
  refine Wc.region [] [] [0, 1] [] [0] ⟨[(0, (.v (.slx), [(0, .al (.a 0 0) [])])), (1, (.v (.int .i64 b240_), []))], [], [(0, [(0, .ex 1000000007 true (List.map cI.i64 a239_))])]⟩ _ (by kernel_rfl) .nil ?_
  refine Wc.seq ?_
  refine Wc.seq ?_
  refine Wc.region [] [] [0, 1, 5] [] [0] ⟨[(0, (.v (.slx), [(0, .al (.a 0 0) [])])), (1, (.v (.int .i64 b240_), [])), (5, (.v (.int .i64 0), []))], [], [(0, [(0, .ex 1000000007 true (List.map cI.i64 a239_))])]⟩ _ (by kernel_rfl) .nil ?_
  obtain ⟨out1, h256, h⟩ := obind h
  refine Wc.lastJ (fun st => ∃ (b244_ : Int) (a245_ : List Int), out1 = .done (b244_, a245_) ∧ st = ⟨[(1, (.v (.int .i64 b244_), []))], [], [(0, [(0, .ex 1000000007 true (List.map cI.i64 a245_))])]⟩) ?_ ?_
  · refine Wc.block ?_
    refine Wc.loop (fun m st => ∃ (b241_ : Int) (b242_ : Int) (a243_ : List Int), st = ⟨[(0, (.v (.slx), [(0, .al (.a 0 0) [])])), (1, (.v (.int .i64 b241_), [])), (5, (.v (.int .i64 b242_), []))], [], [(0, [(0, .ex 1000000007 true (List.map cI.i64 a243_))])]⟩ ∧ plaws_markIntS_L1 k m b241_ b242_ a243_ = some out1) ?_ k ⟨_, _, _, rfl, h256⟩
    rintro m st ⟨b241_, b242_, a243_, rfl, h256⟩
    cases m with
    | zero => exact (onone h256).elim
    | succ m =>
      refine Wc.seq ?_
      refine Wc.seq ?_
      refine Wc.region [{}, {}, { v := some (.int .i64 (a243_.length : Int)) }] [] [0, 1, 5, 9] [] [0] ⟨[(0, (.v (.slx), [(0, .al (.a 0 0) [])])), (1, (.v (.int .i64 b241_), [])), (5, (.v (.int .i64 b242_), [])), (9, (.v (.bool (decide (b242_ < (a243_.length : Int)))), []))], [], [(0, [(0, .ex 1000000007 true (List.map cI.i64 a243_))])]⟩ _ (by kernel_rfl) (.cons (len_obl cI.i64 a243_) .nil) ?_
      rcases oif h256 with ⟨h257, h256⟩ | ⟨h257, h256⟩
      · refine Wc.condT h257 (by kernel_rfl) ?_
        refine Wc.fix (st' := ⟨[(0, (.v (.slx), [(0, .al (.a 0 0) [])])), (1, (.v (.int .i64 b241_), [])), (5, (.v (.int .i64 b242_), []))], [], [(0, [(0, .ex 1000000007 true (List.map cI.i64 a243_))])]⟩) [] [0, 1, 5] [] [0] (by kernel_rfl) ?_
        refine Wc.skip ?_
        refine Wc.seq ?_
        refine Wc.block ?_
        refine Wc.seq ?_
        obtain ⟨b246_, h258, h256⟩ := obind h256
        refine Wc.region [{}, {}, {}, {}, { c := some (List.map cI.i64 (a243_.set ((b242_).toNat) b241_)) }] [] [0, 1, 5] [] [0] ⟨[(0, (.v (.slx), [(0, .al (.a 0 0) [])])), (1, (.v (.int .i64 b241_), [])), (5, (.v (.int .i64 b242_), []))], [], [(0, [(0, .ex 1000000007 true (List.map cI.i64 (a243_.set ((b242_).toNat) b241_)))])]⟩ _ (by kernel_rfl) (.cons (ix_obl (c := cI.i64) cI.i64_len h258) (.cons (mod_obl (off := 0) (new := [.int .i64 b241_]) (c := cI.i64) rfl rfl (at'_spec h258).2 rfl) (.cons (st_obl (sz := 1) (off := 0) (s := 1) (c := cI.i64) rfl (at'_spec h258).2 rfl (Nat.le_of_ble_eq_true rfl)) .nil))) ?_
        refine Wc.region [] [] [0, 1, 5] [] [0] ⟨[(0, (.v (.slx), [(0, .al (.a 0 0) [])])), (1, (.v (.int .i64 (wr.i64 (b241_ + 1))), [])), (5, (.v (.int .i64 b242_), []))], [], [(0, [(0, .ex 1000000007 true (List.map cI.i64 (a243_.set ((b242_).toNat) b241_)))])]⟩ _ (by kernel_rfl) .nil ?_
        refine Wc.region [] [] [0, 1, 5] [] [0] ⟨[(0, (.v (.slx), [(0, .al (.a 0 0) [])])), (1, (.v (.int .i64 (wr.i64 (b241_ + 1))), [])), (5, (.v (.int .i64 (wr.i64 (b242_ + 1))), []))], [], [(0, [(0, .ex 1000000007 true (List.map cI.i64 (a243_.set ((b242_).toNat) b241_)))])]⟩ _ (by kernel_rfl) .nil ?_
        exact ⟨_, Nat.lt_succ_self _, _, _, _, rfl, h256⟩
      · refine Wc.condF h257 (by kernel_rfl) ?_
        refine Wc.fix (st' := ⟨[(1, (.v (.int .i64 b241_), []))], [], [(0, [(0, .ex 1000000007 true (List.map cI.i64 a243_))])]⟩) [] [1] [] [0] (by kernel_rfl) ?_
        refine Wc.exit ?_
        obtain rfl := Option.some.inj h256
        exact ⟨_, _, rfl, rfl⟩
  · rintro st ⟨b244_, a245_, rfl, rfl⟩
    refine Wc.seq ?_
    refine Wc.region [] [] [4] [] [0] ⟨[(4, (.v (.int .i64 b244_), []))], [], [(0, [(0, .ex 1000000007 true (List.map cI.i64 a245_))])]⟩ _ (by kernel_rfl) .nil ?_
    refine Wc.ret ?_
    obtain rfl := Option.some.inj h
    exact ⟨.inl rfl, by kernel_rfl, by kernel_rfl⟩

def plaws_markText_L1 (k : Nat) : Nat → Int → ByteArray → Option (Out ByteArray ByteArray)
  | 0, _, _ => none
  | m + 1, b248_, p249_ =>
    if (decide (b248_ > 0)) = true then
      if (10 : Int) ≠ 0 then
        if sumOk (strOfNums [wr.u8 (wr.i64 (48 + (Int.tmod b248_ 10)))]) p249_ then
          if (10 : Int) ≠ 0 then
            plaws_markText_L1 k m (wr.i64 (Int.tdiv b248_ 10)) ((strOfNums [wr.u8 (wr.i64 (48 + (Int.tmod b248_ 10)))]) ++ p249_)
          else none
        else none
      else none
    else
      some (.done p249_)
/-- laws.markText -/
def plaws_markText (k : Nat) (b247_ : Int) : Option ByteArray :=
  if (decide (b247_ ≤ 0)) = true then
    some (bs [109, 48])
  else
    (plaws_markText_L1 k k b247_ (bs [])).bind fun out1 => match out1 with
    | .ret r => some r
    | .done p250_ =>
      if sumOk (bs [109]) p250_ then
        some ((bs [109]) ++ p250_)
      else none
theorem claws_markText {k : Nat} {b247_ : Int} {r : ByteArray} (h : plaws_markText k b247_ = some r) : FnO Try.prog 51 [.v (.int .i64 b247_) []] (.v (.str r) []) [] := by
  refine FnO.of Try.func51 (rfl : Try.f51.body = some _) (Nat.le_of_ble_eq_true (by kernel_rfl)) (Nat.le_of_ble_eq_true (by kernel_rfl)) ?_
  intro w0 X0 Fin pv0 pb
  unfold plaws_markText at h
  refine Wc.seq ?_
  refine Wc.region [] [] [0] [] [] ⟨[(0, (.v (.int .i64 b247_), []))], [], []⟩ _ (by kernel_rfl) .nil ?_
  refine Wc.seq ?_
  refine Wc.seq ?_
  refine Wc.region [] [] [0, 5] [] [] ⟨[(0, (.v (.int .i64 b247_), [])), (5, (.v (.bool (decide (b247_ ≤ 0))), []))], [], []⟩ _ (by kernel_rfl) .nil ?_
  rcases oif h with ⟨h259, h⟩ | ⟨h259, h⟩
  · refine Wc.condT h259 (by kernel_rfl) ?_
    refine Wc.seq ?_
    refine Wc.region [] [] [2] [] [] ⟨[(2, (.v (.str (bs [109, 48])), []))], [], []⟩ _ (by kernel_rfl) .nil ?_
    refine Wc.ret ?_
    obtain rfl := Option.some.inj h
    exact ⟨.inl rfl, by kernel_rfl, by kernel_rfl⟩
  · refine Wc.condF h259 (by kernel_rfl) ?_
    refine Wc.fix (st' := ⟨[(0, (.v (.int .i64 b247_), []))], [], []⟩) [] [0] [] [] (by kernel_rfl) ?_
    refine Wc.skip ?_
    refine Wc.seq ?_
    refine Wc.region [] [] [0, 3] [] [] ⟨[(0, (.v (.int .i64 b247_), [])), (3, (.v (.str (bs [])), []))], [], []⟩ _ (by kernel_rfl) .nil ?_
    obtain ⟨out1, h260, h⟩ := obind h
    refine Wc.seqJ (fun st => ∃ (p250_ : ByteArray), out1 = .done p250_ ∧ st = ⟨[(3, (.v (.str p250_), []))], [], []⟩) ?_ ?_
    · refine Wc.block ?_
      refine Wc.loop (fun m st => ∃ (b248_ : Int) (p249_ : ByteArray), st = ⟨[(0, (.v (.int .i64 b248_), [])), (3, (.v (.str p249_), []))], [], []⟩ ∧ plaws_markText_L1 k m b248_ p249_ = some out1) ?_ k ⟨_, _, rfl, h260⟩
      rintro m st ⟨b248_, p249_, rfl, h260⟩
      cases m with
      | zero => exact (onone h260).elim
      | succ m =>
        refine Wc.seq ?_
        refine Wc.seq ?_
        refine Wc.region [] [] [0, 3, 7] [] [] ⟨[(0, (.v (.int .i64 b248_), [])), (3, (.v (.str p249_), [])), (7, (.v (.bool (decide (b248_ > 0))), []))], [], []⟩ _ (by kernel_rfl) .nil ?_
        rcases oif h260 with ⟨h261, h260⟩ | ⟨h261, h260⟩
        · refine Wc.condT h261 (by kernel_rfl) ?_
          refine Wc.fix (st' := ⟨[(0, (.v (.int .i64 b248_), [])), (3, (.v (.str p249_), []))], [], []⟩) [] [0, 3] [] [] (by kernel_rfl) ?_
          refine Wc.skip ?_
          refine Wc.block ?_
          refine Wc.seq ?_
          obtain ⟨h262, h260⟩ := oguard h260
          obtain ⟨h263, h260⟩ := oguard h260
          refine Wc.region [{}, {}, {}, {}, { c := some (List.map cI.u8 [wr.u8 (wr.i64 (48 + (Int.tmod b248_ 10)))]) }, { v := some (.str (strOfNums [wr.u8 (wr.i64 (48 + (Int.tmod b248_ 10)))])) }] [] [0, 3] [] [] ⟨[(0, (.v (.int .i64 b248_), [])), (3, (.v (.str ((strOfNums [wr.u8 (wr.i64 (48 + (Int.tmod b248_ 10)))]) ++ p249_)), []))], [], []⟩ _ (by kernel_rfl) (.cons h262 (.cons (cl_cons (c := cI.u8) (x := wr.u8 (wr.i64 (48 + (Int.tmod b248_ 10)))) rfl (cl_nil cI.u8)) (.cons (bytes_obl [wr.u8 (wr.i64 (48 + (Int.tmod b248_ 10)))]) (.cons h263 .nil)))) ?_
          obtain ⟨h264, h260⟩ := oguard h260
          refine Wc.region [] [] [0, 3] [] [] ⟨[(0, (.v (.int .i64 (wr.i64 (Int.tdiv b248_ 10))), [])), (3, (.v (.str ((strOfNums [wr.u8 (wr.i64 (48 + (Int.tmod b248_ 10)))]) ++ p249_)), []))], [], []⟩ _ (by kernel_rfl) (.cons h264 .nil) ?_
          exact ⟨_, Nat.lt_succ_self _, _, _, rfl, h260⟩
        · refine Wc.condF h261 (by kernel_rfl) ?_
          refine Wc.fix (st' := ⟨[(3, (.v (.str p249_), []))], [], []⟩) [] [3] [] [] (by kernel_rfl) ?_
          refine Wc.exit ?_
          obtain rfl := Option.some.inj h260
          exact ⟨_, rfl, rfl⟩
    · rintro st ⟨p250_, rfl, rfl⟩
      refine Wc.seq ?_
      obtain ⟨h265, h⟩ := oguard h
      refine Wc.region [] [] [2] [] [] ⟨[(2, (.v (.str ((bs [109]) ++ p250_)), []))], [], []⟩ _ (by kernel_rfl) (.cons h265 .nil) ?_
      refine Wc.ret ?_
      obtain rfl := Option.some.inj h
      exact ⟨.inl rfl, by kernel_rfl, by kernel_rfl⟩

def plaws_markCellS_L1 (k : Nat) : Nat → Int → Int → (List GCell) → Option (Out ((List GCell) × Int) (Int × (List GCell)))
  | 0, _, _, _ => none
  | m + 1, b253_, b254_, d255_ =>
    if (decide (b254_ < (d255_.length : Int))) = true then
      (at' d255_ b254_).bind fun c258_ =>
      (plaws_markText k (wr.i64 (b253_ + 1))).bind fun p259_ =>
      (at' (d255_.set ((b254_).toNat) (GCell.mk b253_ c258_.gName c258_.gNum c258_.gTo c258_.gKids)) b254_).bind fun c260_ =>
      (at' ((d255_.set ((b254_).toNat) (GCell.mk b253_ c258_.gName c258_.gNum c258_.gTo c258_.gKids)).set ((b254_).toNat) (GCell.mk c260_.gKind p259_ c260_.gNum c260_.gTo c260_.gKids)) b254_).bind fun c261_ =>
      (at' (((d255_.set ((b254_).toNat) (GCell.mk b253_ c258_.gName c258_.gNum c258_.gTo c258_.gKids)).set ((b254_).toNat) (GCell.mk c260_.gKind p259_ c260_.gNum c260_.gTo c260_.gKids)).set ((b254_).toNat) (GCell.mk c261_.gKind c261_.gName (wr.i64 ((wr.i64 (b253_ + 1)) + 1)) c261_.gTo c261_.gKids)) b254_).bind fun c262_ =>
      (at' ((((d255_.set ((b254_).toNat) (GCell.mk b253_ c258_.gName c258_.gNum c258_.gTo c258_.gKids)).set ((b254_).toNat) (GCell.mk c260_.gKind p259_ c260_.gNum c260_.gTo c260_.gKids)).set ((b254_).toNat) (GCell.mk c261_.gKind c261_.gName (wr.i64 ((wr.i64 (b253_ + 1)) + 1)) c261_.gTo c261_.gKids)).set ((b254_).toNat) (GCell.mk c262_.gKind c262_.gName c262_.gNum (wr.i64 ((wr.i64 ((wr.i64 (b253_ + 1)) + 1)) + 1)) c262_.gKids)) b254_).bind fun c263_ =>
      (plaws_markIntS k c263_.gKids (wr.i64 ((wr.i64 ((wr.i64 ((wr.i64 (b253_ + 1)) + 1)) + 1)) + 1))).bind fun q264_ =>
      plaws_markCellS_L1 k m q264_.2 (wr.i64 (b254_ + 1)) (((((d255_.set ((b254_).toNat) (GCell.mk b253_ c258_.gName c258_.gNum c258_.gTo c258_.gKids)).set ((b254_).toNat) (GCell.mk c260_.gKind p259_ c260_.gNum c260_.gTo c260_.gKids)).set ((b254_).toNat) (GCell.mk c261_.gKind c261_.gName (wr.i64 ((wr.i64 (b253_ + 1)) + 1)) c261_.gTo c261_.gKids)).set ((b254_).toNat) (GCell.mk c262_.gKind c262_.gName c262_.gNum (wr.i64 ((wr.i64 ((wr.i64 (b253_ + 1)) + 1)) + 1)) c262_.gKids)).set ((b254_).toNat) (GCell.mk c263_.gKind c263_.gName c263_.gNum c263_.gTo q264_.1))
    else
      some (.done (b253_, d255_))
/-- laws.markCellS -/
def plaws_markCellS (k : Nat) (d251_ : List GCell) (b252_ : Int) : Option ((List GCell) × Int) :=
  (plaws_markCellS_L1 k k b252_ 0 d251_).bind fun out1 => match out1 with
  | .ret r => some r
  | .done (b256_, d257_) =>
    some (d257_, b256_)
set_option maxHeartbeats 4000000 in
theorem claws_markCellS {k : Nat} {d251_ : List GCell} {b252_ : Int} {r : (List GCell) × Int} (h : plaws_markCellS k d251_ b252_ = some r) : FnO Try.prog 84 [.io (.slx) [(0, .ex 1000000007 true (List.map GCell.c d251_))], .v (.int .i64 b252_) []] (.v (.int .i64 r.2) []) [(0, .v .undef [(0, .ex 1000000007 true (List.map GCell.c r.1))])] := by
  refine FnO.of Try.func84 (rfl : Try.f84.body = some _) (Nat.le_of_ble_eq_true (by kernel_rfl)) (Nat.le_of_ble_eq_true (by kernel_rfl)) ?_
  intro w0 X0 Fin pv0 pb
  unfold plaws_markCellS at h
  refine Wc.seq ?_
  refine Wc.region [] [] [0, 1] [] [0] ⟨[(0, (.v (.slx), [(0, .al (.a 0 0) [])])), (1, (.v (.int .i64 b252_), []))], [], [(0, [(0, .ex 1000000007 true (List.map GCell.c d251_))])]⟩ _ (by kernel_rfl) .nil ?_
  refine Wc.seq ?_
  refine Wc.seq ?_
  refine Wc.region [] [] [0, 1, 5] [] [0] ⟨[(0, (.v (.slx), [(0, .al (.a 0 0) [])])), (1, (.v (.int .i64 b252_), [])), (5, (.v (.int .i64 0), []))], [], [(0, [(0, .ex 1000000007 true (List.map GCell.c d251_))])]⟩ _ (by kernel_rfl) .nil ?_
  obtain ⟨out1, h266, h⟩ := obind h
  refine Wc.lastJ (fun st => ∃ (b256_ : Int) (d257_ : List GCell), out1 = .done (b256_, d257_) ∧ st = ⟨[(1, (.v (.int .i64 b256_), []))], [], [(0, [(0, .ex 1000000007 true (List.map GCell.c d257_))])]⟩) ?_ ?_
  · refine Wc.block ?_
    refine Wc.loop (fun m st => ∃ (b253_ : Int) (b254_ : Int) (d255_ : List GCell), st = ⟨[(0, (.v (.slx), [(0, .al (.a 0 0) [])])), (1, (.v (.int .i64 b253_), [])), (5, (.v (.int .i64 b254_), []))], [], [(0, [(0, .ex 1000000007 true (List.map GCell.c d255_))])]⟩ ∧ plaws_markCellS_L1 k m b253_ b254_ d255_ = some out1) ?_ k ⟨_, _, _, rfl, h266⟩
    rintro m st ⟨b253_, b254_, d255_, rfl, h266⟩
    cases m with
    | zero => exact (onone h266).elim
    | succ m =>
      refine Wc.seq ?_
      refine Wc.seq ?_
      refine Wc.region [{}, {}, { v := some (.int .i64 (d255_.length : Int)) }] [] [0, 1, 5, 9] [] [0] ⟨[(0, (.v (.slx), [(0, .al (.a 0 0) [])])), (1, (.v (.int .i64 b253_), [])), (5, (.v (.int .i64 b254_), [])), (9, (.v (.bool (decide (b254_ < (d255_.length : Int)))), []))], [], [(0, [(0, .ex 1000000007 true (List.map GCell.c d255_))])]⟩ _ (by kernel_rfl) (.cons (len_obl GCell.c d255_) .nil) ?_
      rcases oif h266 with ⟨h267, h266⟩ | ⟨h267, h266⟩
      · refine Wc.condT h267 (by kernel_rfl) ?_
        refine Wc.fix (st' := ⟨[(0, (.v (.slx), [(0, .al (.a 0 0) [])])), (1, (.v (.int .i64 b253_), [])), (5, (.v (.int .i64 b254_), []))], [], [(0, [(0, .ex 1000000007 true (List.map GCell.c d255_))])]⟩) [] [0, 1, 5] [] [0] (by kernel_rfl) ?_
        refine Wc.skip ?_
        refine Wc.seq ?_
        refine Wc.block ?_
        refine Wc.seq ?_
        obtain ⟨c258_, h268, h266⟩ := obind h266
        refine Wc.region [{}, {}, {}, {}, {}, { c := some (List.map GCell.c (d255_.set ((b254_).toNat) (GCell.mk b253_ c258_.gName c258_.gNum c258_.gTo c258_.gKids))) }] [] [0, 1, 5] [] [0] ⟨[(0, (.v (.slx), [(0, .al (.a 0 0) [])])), (1, (.v (.int .i64 b253_), [])), (5, (.v (.int .i64 b254_), []))], [], [(0, [(0, .ex 1000000007 true (List.map GCell.c (d255_.set ((b254_).toNat) (GCell.mk b253_ c258_.gName c258_.gNum c258_.gTo c258_.gKids))))])]⟩ _ (by kernel_rfl) (.cons (ix_obl (c := GCell.c) GCell.c_len h268) (.cons (mod_obl (off := 0) (new := [.int .i64 b253_]) (c := GCell.c) (GCell.c_eq c258_) (GCell.c_eq (GCell.mk b253_ c258_.gName c258_.gNum c258_.gTo c258_.gKids)) (at'_spec h268).2 rfl) (.cons (st_obl (sz := 5) (off := 0) (s := 1) (c := GCell.c) (GCell.c_eq c258_) (at'_spec h268).2 rfl (Nat.le_of_ble_eq_true rfl)) .nil))) ?_
        refine Wc.seq ?_
        refine Wc.region [] [] [0, 1, 5] [] [0] ⟨[(0, (.v (.slx), [(0, .al (.a 0 0) [])])), (1, (.v (.int .i64 (wr.i64 (b253_ + 1))), [])), (5, (.v (.int .i64 b254_), []))], [], [(0, [(0, .ex 1000000007 true (List.map GCell.c (d255_.set ((b254_).toNat) (GCell.mk b253_ c258_.gName c258_.gNum c258_.gTo c258_.gKids))))])]⟩ _ (by kernel_rfl) .nil ?_
        refine Wc.seq ?_
        obtain ⟨p259_, h269, h266⟩ := obind h266
        obtain ⟨c260_, h270, h266⟩ := obind h266
        refine Wc.region [{}, {}, {}, { r := some (.v (.str p259_) []) }, {}, {}, { c := some (List.map GCell.c ((d255_.set ((b254_).toNat) (GCell.mk b253_ c258_.gName c258_.gNum c258_.gTo c258_.gKids)).set ((b254_).toNat) (GCell.mk c260_.gKind p259_ c260_.gNum c260_.gTo c260_.gKids))) }] [] [0, 1, 5] [] [0] ⟨[(0, (.v (.slx), [(0, .al (.a 0 0) [])])), (1, (.v (.int .i64 (wr.i64 (b253_ + 1))), [])), (5, (.v (.int .i64 b254_), []))], [], [(0, [(0, .ex 1000000007 true (List.map GCell.c ((d255_.set ((b254_).toNat) (GCell.mk b253_ c258_.gName c258_.gNum c258_.gTo c258_.gKids)).set ((b254_).toNat) (GCell.mk c260_.gKind p259_ c260_.gNum c260_.gTo c260_.gKids))))])]⟩ _ (by kernel_rfl) (.cons (claws_markText h269) (.cons (ix_obl (c := GCell.c) GCell.c_len h270) (.cons (mod_obl (off := 1) (new := [.str p259_]) (c := GCell.c) (GCell.c_eq c260_) (GCell.c_eq (GCell.mk c260_.gKind p259_ c260_.gNum c260_.gTo c260_.gKids)) (at'_spec h270).2 rfl) (.cons (st_obl (sz := 5) (off := 1) (s := 1) (c := GCell.c) (GCell.c_eq c260_) (at'_spec h270).2 rfl (Nat.le_of_ble_eq_true rfl)) .nil)))) ?_
        refine Wc.seq ?_
        refine Wc.region [] [] [0, 1, 5] [] [0] ⟨[(0, (.v (.slx), [(0, .al (.a 0 0) [])])), (1, (.v (.int .i64 (wr.i64 ((wr.i64 (b253_ + 1)) + 1))), [])), (5, (.v (.int .i64 b254_), []))], [], [(0, [(0, .ex 1000000007 true (List.map GCell.c ((d255_.set ((b254_).toNat) (GCell.mk b253_ c258_.gName c258_.gNum c258_.gTo c258_.gKids)).set ((b254_).toNat) (GCell.mk c260_.gKind p259_ c260_.gNum c260_.gTo c260_.gKids))))])]⟩ _ (by kernel_rfl) .nil ?_
        refine Wc.seq ?_
        obtain ⟨c261_, h271, h266⟩ := obind h266
        refine Wc.region [{}, {}, {}, {}, {}, { c := some (List.map GCell.c (((d255_.set ((b254_).toNat) (GCell.mk b253_ c258_.gName c258_.gNum c258_.gTo c258_.gKids)).set ((b254_).toNat) (GCell.mk c260_.gKind p259_ c260_.gNum c260_.gTo c260_.gKids)).set ((b254_).toNat) (GCell.mk c261_.gKind c261_.gName (wr.i64 ((wr.i64 (b253_ + 1)) + 1)) c261_.gTo c261_.gKids))) }] [] [0, 1, 5] [] [0] ⟨[(0, (.v (.slx), [(0, .al (.a 0 0) [])])), (1, (.v (.int .i64 (wr.i64 ((wr.i64 (b253_ + 1)) + 1))), [])), (5, (.v (.int .i64 b254_), []))], [], [(0, [(0, .ex 1000000007 true (List.map GCell.c (((d255_.set ((b254_).toNat) (GCell.mk b253_ c258_.gName c258_.gNum c258_.gTo c258_.gKids)).set ((b254_).toNat) (GCell.mk c260_.gKind p259_ c260_.gNum c260_.gTo c260_.gKids)).set ((b254_).toNat) (GCell.mk c261_.gKind c261_.gName (wr.i64 ((wr.i64 (b253_ + 1)) + 1)) c261_.gTo c261_.gKids))))])]⟩ _ (by kernel_rfl) (.cons (ix_obl (c := GCell.c) GCell.c_len h271) (.cons (mod_obl (off := 2) (new := [.int .i64 (wr.i64 ((wr.i64 (b253_ + 1)) + 1))]) (c := GCell.c) (GCell.c_eq c261_) (GCell.c_eq (GCell.mk c261_.gKind c261_.gName (wr.i64 ((wr.i64 (b253_ + 1)) + 1)) c261_.gTo c261_.gKids)) (at'_spec h271).2 rfl) (.cons (st_obl (sz := 5) (off := 2) (s := 1) (c := GCell.c) (GCell.c_eq c261_) (at'_spec h271).2 rfl (Nat.le_of_ble_eq_true rfl)) .nil))) ?_
        refine Wc.seq ?_
        refine Wc.region [] [] [0, 1, 5] [] [0] ⟨[(0, (.v (.slx), [(0, .al (.a 0 0) [])])), (1, (.v (.int .i64 (wr.i64 ((wr.i64 ((wr.i64 (b253_ + 1)) + 1)) + 1))), [])), (5, (.v (.int .i64 b254_), []))], [], [(0, [(0, .ex 1000000007 true (List.map GCell.c (((d255_.set ((b254_).toNat) (GCell.mk b253_ c258_.gName c258_.gNum c258_.gTo c258_.gKids)).set ((b254_).toNat) (GCell.mk c260_.gKind p259_ c260_.gNum c260_.gTo c260_.gKids)).set ((b254_).toNat) (GCell.mk c261_.gKind c261_.gName (wr.i64 ((wr.i64 (b253_ + 1)) + 1)) c261_.gTo c261_.gKids))))])]⟩ _ (by kernel_rfl) .nil ?_
        refine Wc.seq ?_
        obtain ⟨c262_, h272, h266⟩ := obind h266
        refine Wc.region [{}, {}, {}, {}, {}, { c := some (List.map GCell.c ((((d255_.set ((b254_).toNat) (GCell.mk b253_ c258_.gName c258_.gNum c258_.gTo c258_.gKids)).set ((b254_).toNat) (GCell.mk c260_.gKind p259_ c260_.gNum c260_.gTo c260_.gKids)).set ((b254_).toNat) (GCell.mk c261_.gKind c261_.gName (wr.i64 ((wr.i64 (b253_ + 1)) + 1)) c261_.gTo c261_.gKids)).set ((b254_).toNat) (GCell.mk c262_.gKind c262_.gName c262_.gNum (wr.i64 ((wr.i64 ((wr.i64 (b253_ + 1)) + 1)) + 1)) c262_.gKids))) }] [] [0, 1, 5] [] [0] ⟨[(0, (.v (.slx), [(0, .al (.a 0 0) [])])), (1, (.v (.int .i64 (wr.i64 ((wr.i64 ((wr.i64 (b253_ + 1)) + 1)) + 1))), [])), (5, (.v (.int .i64 b254_), []))], [], [(0, [(0, .ex 1000000007 true (List.map GCell.c ((((d255_.set ((b254_).toNat) (GCell.mk b253_ c258_.gName c258_.gNum c258_.gTo c258_.gKids)).set ((b254_).toNat) (GCell.mk c260_.gKind p259_ c260_.gNum c260_.gTo c260_.gKids)).set ((b254_).toNat) (GCell.mk c261_.gKind c261_.gName (wr.i64 ((wr.i64 (b253_ + 1)) + 1)) c261_.gTo c261_.gKids)).set ((b254_).toNat) (GCell.mk c262_.gKind c262_.gName c262_.gNum (wr.i64 ((wr.i64 ((wr.i64 (b253_ + 1)) + 1)) + 1)) c262_.gKids))))])]⟩ _ (by kernel_rfl) (.cons (ix_obl (c := GCell.c) GCell.c_len h272) (.cons (mod_obl (off := 3) (new := [.int .i64 (wr.i64 ((wr.i64 ((wr.i64 (b253_ + 1)) + 1)) + 1))]) (c := GCell.c) (GCell.c_eq c262_) (GCell.c_eq (GCell.mk c262_.gKind c262_.gName c262_.gNum (wr.i64 ((wr.i64 ((wr.i64 (b253_ + 1)) + 1)) + 1)) c262_.gKids)) (at'_spec h272).2 rfl) (.cons (st_obl (sz := 5) (off := 3) (s := 1) (c := GCell.c) (GCell.c_eq c262_) (at'_spec h272).2 rfl (Nat.le_of_ble_eq_true rfl)) .nil))) ?_
        refine Wc.seq ?_
        refine Wc.region [] [] [0, 1, 5] [] [0] ⟨[(0, (.v (.slx), [(0, .al (.a 0 0) [])])), (1, (.v (.int .i64 (wr.i64 ((wr.i64 ((wr.i64 ((wr.i64 (b253_ + 1)) + 1)) + 1)) + 1))), [])), (5, (.v (.int .i64 b254_), []))], [], [(0, [(0, .ex 1000000007 true (List.map GCell.c ((((d255_.set ((b254_).toNat) (GCell.mk b253_ c258_.gName c258_.gNum c258_.gTo c258_.gKids)).set ((b254_).toNat) (GCell.mk c260_.gKind p259_ c260_.gNum c260_.gTo c260_.gKids)).set ((b254_).toNat) (GCell.mk c261_.gKind c261_.gName (wr.i64 ((wr.i64 (b253_ + 1)) + 1)) c261_.gTo c261_.gKids)).set ((b254_).toNat) (GCell.mk c262_.gKind c262_.gName c262_.gNum (wr.i64 ((wr.i64 ((wr.i64 (b253_ + 1)) + 1)) + 1)) c262_.gKids))))])]⟩ _ (by kernel_rfl) .nil ?_
        obtain ⟨c263_, h273, h266⟩ := obind h266
        obtain ⟨q264_, h274, h266⟩ := obind h266
        refine Wc.region [{}, {}, {}, {}, { v := some (.slx) }, {}, { c := some (List.map GCell.c (((((d255_.set ((b254_).toNat) (GCell.mk b253_ c258_.gName c258_.gNum c258_.gTo c258_.gKids)).set ((b254_).toNat) (GCell.mk c260_.gKind p259_ c260_.gNum c260_.gTo c260_.gKids)).set ((b254_).toNat) (GCell.mk c261_.gKind c261_.gName (wr.i64 ((wr.i64 (b253_ + 1)) + 1)) c261_.gTo c261_.gKids)).set ((b254_).toNat) (GCell.mk c262_.gKind c262_.gName c262_.gNum (wr.i64 ((wr.i64 ((wr.i64 (b253_ + 1)) + 1)) + 1)) c262_.gKids)).set ((b254_).toNat) (GCell.mk c263_.gKind c263_.gName c263_.gNum c263_.gTo q264_.1))), io := [0], r := some (.v (.int .i64 q264_.2) []), outs := [(0, .v .undef [(0, .ex 1000000007 true (List.map cI.i64 q264_.1))])], ioc := [(0, .ex 1000000007 true (List.map cI.i64 c263_.gKids))] }] [] [0, 1, 5] [] [0] ⟨[(0, (.v (.slx), [(0, .al (.a 0 0) [])])), (1, (.v (.int .i64 q264_.2), [])), (5, (.v (.int .i64 b254_), []))], [], [(0, [(0, .ex 1000000007 true (List.map GCell.c (((((d255_.set ((b254_).toNat) (GCell.mk b253_ c258_.gName c258_.gNum c258_.gTo c258_.gKids)).set ((b254_).toNat) (GCell.mk c260_.gKind p259_ c260_.gNum c260_.gTo c260_.gKids)).set ((b254_).toNat) (GCell.mk c261_.gKind c261_.gName (wr.i64 ((wr.i64 (b253_ + 1)) + 1)) c261_.gTo c261_.gKids)).set ((b254_).toNat) (GCell.mk c262_.gKind c262_.gName c262_.gNum (wr.i64 ((wr.i64 ((wr.i64 (b253_ + 1)) + 1)) + 1)) c262_.gKids)).set ((b254_).toNat) (GCell.mk c263_.gKind c263_.gName c263_.gNum c263_.gTo q264_.1))))])]⟩ _ (by kernel_rfl) (.cons (ix_obl (c := GCell.c) GCell.c_len h273) (.cons (el_oblD (sz := 5) (off := 4) (s := 1) (ag := false) (v := .slx) (c := GCell.c) (GCell.c_eq c263_) (at'_spec h273).2 rfl (Nat.le_of_ble_eq_true rfl) rfl) (.cons (own_obl (own := [(0, .al (.a 0 0) [(((b254_).toNat), 5, 4)])]) (p := .a 0 0) (m := (b254_).toNat) (sz := 5) (off := 4) (js := [0]) rfl) (.cons (seg_obl (sz := 5) (off := 4) (n := [.sl (List.map cI.i64 c263_.gKids)]) (c := GCell.c) (GCell.c_eq c263_) (at'_spec h273).2 rfl (Nat.le_of_ble_eq_true rfl) rfl) (.cons (mod_obl (off := 4) (new := [.sl (List.map cI.i64 q264_.1)]) (c := GCell.c) (GCell.c_eq c263_) (GCell.c_eq (GCell.mk c263_.gKind c263_.gName c263_.gNum c263_.gTo q264_.1)) (at'_spec h273).2 rfl) (.cons (FnO.any (args := [.io (.slx) [(0, .ex 1000000007 true (List.map cI.i64 c263_.gKids))], .v (.int .i64 (wr.i64 ((wr.i64 ((wr.i64 ((wr.i64 (b253_ + 1)) + 1)) + 1)) + 1))) []]) (claws_markIntS h274)) .nil)))))) ?_
        refine Wc.region [] [] [0, 1, 5] [] [0] ⟨[(0, (.v (.slx), [(0, .al (.a 0 0) [])])), (1, (.v (.int .i64 q264_.2), [])), (5, (.v (.int .i64 (wr.i64 (b254_ + 1))), []))], [], [(0, [(0, .ex 1000000007 true (List.map GCell.c (((((d255_.set ((b254_).toNat) (GCell.mk b253_ c258_.gName c258_.gNum c258_.gTo c258_.gKids)).set ((b254_).toNat) (GCell.mk c260_.gKind p259_ c260_.gNum c260_.gTo c260_.gKids)).set ((b254_).toNat) (GCell.mk c261_.gKind c261_.gName (wr.i64 ((wr.i64 (b253_ + 1)) + 1)) c261_.gTo c261_.gKids)).set ((b254_).toNat) (GCell.mk c262_.gKind c262_.gName c262_.gNum (wr.i64 ((wr.i64 ((wr.i64 (b253_ + 1)) + 1)) + 1)) c262_.gKids)).set ((b254_).toNat) (GCell.mk c263_.gKind c263_.gName c263_.gNum c263_.gTo q264_.1))))])]⟩ _ (by kernel_rfl) .nil ?_
        exact ⟨_, Nat.lt_succ_self _, _, _, _, rfl, h266⟩
      · refine Wc.condF h267 (by kernel_rfl) ?_
        refine Wc.fix (st' := ⟨[(1, (.v (.int .i64 b253_), []))], [], [(0, [(0, .ex 1000000007 true (List.map GCell.c d255_))])]⟩) [] [1] [] [0] (by kernel_rfl) ?_
        refine Wc.exit ?_
        obtain rfl := Option.some.inj h266
        exact ⟨_, _, rfl, rfl⟩
  · rintro st ⟨b256_, d257_, rfl, rfl⟩
    refine Wc.seq ?_
    refine Wc.region [] [] [4] [] [0] ⟨[(4, (.v (.int .i64 b256_), []))], [], [(0, [(0, .ex 1000000007 true (List.map GCell.c d257_))])]⟩ _ (by kernel_rfl) .nil ?_
    refine Wc.ret ?_
    obtain rfl := Option.some.inj h
    exact ⟨.inl rfl, by kernel_rfl, by kernel_rfl⟩

/-- laws.markHeap -/
def plaws_markHeap (k : Nat) (e265_ : GHeap) (b266_ : Int) : Option (GHeap × Int) :=
  (plaws_markCellS k e265_.gCells b266_).bind fun r267_ =>
  (plaws_markIntS k e265_.gTrail r267_.2).bind fun q268_ =>
  some (GHeap.mk r267_.1 q268_.1, q268_.2)
theorem claws_markHeap {k : Nat} {e265_ : GHeap} {b266_ : Int} {r : GHeap × Int} (h : plaws_markHeap k e265_ b266_ = some r) : FnO Try.prog 41 [.io (.agg [.slx, .slx]) [(0, .ex 1000000007 true (List.map GCell.c e265_.gCells)), (1, .ex 1000000007 true (List.map cI.i64 e265_.gTrail))], .v (.int .i64 b266_) []] (.v (.int .i64 r.2) []) [(0, .v .undef [(0, .ex 1000000007 true (List.map GCell.c r.1.gCells)), (1, .ex 1000000007 true (List.map cI.i64 r.1.gTrail))])] := by
  refine FnO.of Try.func41 (rfl : Try.f41.body = some _) (Nat.le_of_ble_eq_true (by kernel_rfl)) (Nat.le_of_ble_eq_true (by kernel_rfl)) ?_
  intro w0 X0 Fin pv0 pb
  unfold plaws_markHeap at h
  refine Wc.seq ?_
  refine Wc.region [] [] [1, 2] [2] [0] ⟨[(1, (.v (.int .i64 b266_), [])), (2, (.ptr 2 0, []))], [(2, .cells [.slx, .slx] [(0, .al (.a 0 0) []), (1, .al (.a 0 1) [])])], [(0, [(0, .ex 1000000007 true (List.map GCell.c e265_.gCells)), (1, .ex 1000000007 true (List.map cI.i64 e265_.gTrail))])]⟩ _ (by kernel_rfl) .nil ?_
  refine Wc.seq ?_
  obtain ⟨r267_, h275, h⟩ := obind h
  refine Wc.region [{}, {}, {}, { io := [0], r := some (.v (.int .i64 r267_.2) []), outs := [(0, .v .undef [(0, .ex 1000000007 true (List.map GCell.c r267_.1))])] }] [] [1, 2] [2] [0] ⟨[(1, (.v (.int .i64 r267_.2), [])), (2, (.ptr 2 0, []))], [(2, .cells [.slx, .slx] [(0, .al (.a 0 0) []), (1, .al (.a 0 1) [])])], [(0, [(0, .ex 1000000007 true (List.map GCell.c r267_.1)), (1, .ex 1000000007 true (List.map cI.i64 e265_.gTrail))])]⟩ _ (by kernel_rfl) (.cons (FnO.any (args := [.io (.slx) [(0, .ex 1000000007 true (List.map GCell.c e265_.gCells))], .v (.int .i64 b266_) []]) (claws_markCellS h275)) .nil) ?_
  refine Wc.seq ?_
  obtain ⟨q268_, h276, h⟩ := obind h
  refine Wc.region [{}, {}, {}, { io := [0], r := some (.v (.int .i64 q268_.2) []), outs := [(0, .v .undef [(0, .ex 1000000007 true (List.map cI.i64 q268_.1))])] }] [] [1] [] [0] ⟨[(1, (.v (.int .i64 q268_.2), []))], [], [(0, [(0, .ex 1000000007 true (List.map GCell.c r267_.1)), (1, .ex 1000000007 true (List.map cI.i64 q268_.1))])]⟩ _ (by kernel_rfl) (.cons (FnO.any (args := [.io (.slx) [(0, .ex 1000000007 true (List.map cI.i64 e265_.gTrail))], .v (.int .i64 r267_.2) []]) (claws_markIntS h276)) .nil) ?_
  refine Wc.seq ?_
  refine Wc.region [] [] [4] [] [0] ⟨[(4, (.v (.int .i64 q268_.2), []))], [], [(0, [(0, .ex 1000000007 true (List.map GCell.c r267_.1)), (1, .ex 1000000007 true (List.map cI.i64 q268_.1))])]⟩ _ (by kernel_rfl) .nil ?_
  refine Wc.ret ?_
  obtain rfl := Option.some.inj h
  exact ⟨.inl rfl, by kernel_rfl, by kernel_rfl⟩

def plaws_heldIntS_L1 (k : Nat) (a269_ : List Int) : Nat → Int → Int → Option (Out Int Int)
  | 0, _, _ => none
  | m + 1, b271_, b272_ =>
    if (decide (b272_ < (a269_.length : Int))) = true then
      (at' a269_ b272_).bind fun b274_ =>
      if (b274_ != b271_) = true then
        some (.ret (-1))
      else
        plaws_heldIntS_L1 k a269_ m (wr.i64 (b271_ + 1)) (wr.i64 (b272_ + 1))
    else
      some (.done b271_)
/-- laws.heldIntS -/
def plaws_heldIntS (k : Nat) (a269_ : List Int) (b270_ : Int) : Option Int :=
  (plaws_heldIntS_L1 k a269_ k b270_ 0).bind fun out1 => match out1 with
  | .ret r => some r
  | .done b273_ =>
    some b273_
theorem claws_heldIntS {k : Nat} {a269_ : List Int} {b270_ : Int} {r : Int} (h : plaws_heldIntS k a269_ b270_ = some r) : FnO Try.prog 35 [.v (.sl (List.map cI.i64 a269_)) [], .v (.int .i64 b270_) []] (.v (.int .i64 r) []) [] := by
  refine FnO.of Try.func35 (rfl : Try.f35.body = some _) (Nat.le_of_ble_eq_true (by kernel_rfl)) (Nat.le_of_ble_eq_true (by kernel_rfl)) ?_
  intro w0 X0 Fin pv0 pb
  unfold plaws_heldIntS at h
  refine Wc.seq ?_
  refine Wc.region [] [] [0, 1] [] [] ⟨[(0, (.v (.sl (List.map cI.i64 a269_)), [])), (1, (.v (.int .i64 b270_), []))], [], []⟩ _ (by kernel_rfl) .nil ?_
  refine Wc.seq ?_
  refine Wc.seq ?_
  refine Wc.region [] [] [0, 1, 5] [] [] ⟨[(0, (.v (.sl (List.map cI.i64 a269_)), [])), (1, (.v (.int .i64 b270_), [])), (5, (.v (.int .i64 0), []))], [], []⟩ _ (by kernel_rfl) .nil ?_
  obtain ⟨out1, h277, h⟩ := obind h
  refine Wc.lastJ (fun st => ∃ (b273_ : Int), out1 = .done b273_ ∧ st = ⟨[(1, (.v (.int .i64 b273_), []))], [], []⟩) ?_ ?_
  · refine Wc.block ?_
    refine Wc.loop (fun m st => ∃ (b271_ : Int) (b272_ : Int), st = ⟨[(0, (.v (.sl (List.map cI.i64 a269_)), [])), (1, (.v (.int .i64 b271_), [])), (5, (.v (.int .i64 b272_), []))], [], []⟩ ∧ plaws_heldIntS_L1 k a269_ m b271_ b272_ = some out1) ?_ k ⟨_, _, rfl, h277⟩
    rintro m st ⟨b271_, b272_, rfl, h277⟩
    cases m with
    | zero => exact (onone h277).elim
    | succ m =>
      refine Wc.seq ?_
      refine Wc.seq ?_
      refine Wc.region [{}, {}, { v := some (.int .i64 (a269_.length : Int)) }] [] [0, 1, 5, 9] [] [] ⟨[(0, (.v (.sl (List.map cI.i64 a269_)), [])), (1, (.v (.int .i64 b271_), [])), (5, (.v (.int .i64 b272_), [])), (9, (.v (.bool (decide (b272_ < (a269_.length : Int)))), []))], [], []⟩ _ (by kernel_rfl) (.cons (len_obl cI.i64 a269_) .nil) ?_
      rcases oif h277 with ⟨h278, h277⟩ | ⟨h278, h277⟩
      · refine Wc.condT h278 (by kernel_rfl) ?_
        refine Wc.fix (st' := ⟨[(0, (.v (.sl (List.map cI.i64 a269_)), [])), (1, (.v (.int .i64 b271_), [])), (5, (.v (.int .i64 b272_), []))], [], []⟩) [] [0, 1, 5] [] [] (by kernel_rfl) ?_
        refine Wc.skip ?_
        refine Wc.seq ?_
        refine Wc.block ?_
        refine Wc.seq ?_
        refine Wc.seq ?_
        obtain ⟨b274_, h279, h277⟩ := obind h277
        refine Wc.region [{}, {}, { v := some (.vptr [.int .i64 b274_]) }] [] [0, 1, 5, 17] [] [] ⟨[(0, (.v (.sl (List.map cI.i64 a269_)), [])), (1, (.v (.int .i64 b271_), [])), (5, (.v (.int .i64 b272_), [])), (17, (.v (.bool (b274_ != b271_)), []))], [], []⟩ _ (by kernel_rfl) (.cons (at_obl (c := cI.i64) rfl cI.i64_len h279) (.cons (len_ok 1 [.int .i64 b274_]) .nil)) ?_
        rcases oif h277 with ⟨h280, h277⟩ | ⟨h280, h277⟩
        · refine Wc.condT h280 (by kernel_rfl) ?_
          refine Wc.seq ?_
          refine Wc.region [] [] [4] [] [] ⟨[(4, (.v (.int .i64 (-1)), []))], [], []⟩ _ (by kernel_rfl) .nil ?_
          refine Wc.ret ?_
          obtain rfl := Option.some.inj h277
          obtain rfl := Option.some.inj h
          exact ⟨.inl rfl, by kernel_rfl, by kernel_rfl⟩
        · refine Wc.condF h280 (by kernel_rfl) ?_
          refine Wc.fix (st' := ⟨[(0, (.v (.sl (List.map cI.i64 a269_)), [])), (1, (.v (.int .i64 b271_), [])), (5, (.v (.int .i64 b272_), []))], [], []⟩) [] [0, 1, 5] [] [] (by kernel_rfl) ?_
          refine Wc.skip ?_
          refine Wc.region [] [] [0, 1, 5] [] [] ⟨[(0, (.v (.sl (List.map cI.i64 a269_)), [])), (1, (.v (.int .i64 (wr.i64 (b271_ + 1))), [])), (5, (.v (.int .i64 b272_), []))], [], []⟩ _ (by kernel_rfl) .nil ?_
          refine Wc.region [] [] [0, 1, 5] [] [] ⟨[(0, (.v (.sl (List.map cI.i64 a269_)), [])), (1, (.v (.int .i64 (wr.i64 (b271_ + 1))), [])), (5, (.v (.int .i64 (wr.i64 (b272_ + 1))), []))], [], []⟩ _ (by kernel_rfl) .nil ?_
          exact ⟨_, Nat.lt_succ_self _, _, _, rfl, h277⟩
      · refine Wc.condF h278 (by kernel_rfl) ?_
        refine Wc.fix (st' := ⟨[(1, (.v (.int .i64 b271_), []))], [], []⟩) [] [1] [] [] (by kernel_rfl) ?_
        refine Wc.exit ?_
        obtain rfl := Option.some.inj h277
        exact ⟨_, rfl, rfl⟩
  · rintro st ⟨b273_, rfl, rfl⟩
    refine Wc.seq ?_
    refine Wc.region [] [] [4] [] [] ⟨[(4, (.v (.int .i64 b273_), []))], [], []⟩ _ (by kernel_rfl) .nil ?_
    refine Wc.ret ?_
    obtain rfl := Option.some.inj h
    exact ⟨.inl rfl, by kernel_rfl, by kernel_rfl⟩

def plaws_heldCellS_L1 (k : Nat) (d275_ : List GCell) : Nat → Int → Int → Option (Out Int Int)
  | 0, _, _ => none
  | m + 1, b277_, b278_ =>
    if (decide (b278_ < (d275_.length : Int))) = true then
      (at' d275_ b278_).bind fun c280_ =>
      if (c280_.gKind != b277_) = true then
        some (.ret (-1))
      else
        (at' d275_ b278_).bind fun c281_ =>
        (plaws_markText k (wr.i64 (b277_ + 1))).bind fun p282_ =>
        if (!(sEq c281_.gName p282_)) = true then
          some (.ret (-1))
        else
          (at' d275_ b278_).bind fun c283_ =>
          if (c283_.gNum != (wr.i64 ((wr.i64 (b277_ + 1)) + 1))) = true then
            some (.ret (-1))
          else
            (at' d275_ b278_).bind fun c284_ =>
            if (c284_.gTo != (wr.i64 ((wr.i64 ((wr.i64 (b277_ + 1)) + 1)) + 1))) = true then
              some (.ret (-1))
            else
              (at' d275_ b278_).bind fun c285_ =>
              (plaws_heldIntS k c285_.gKids (wr.i64 ((wr.i64 ((wr.i64 ((wr.i64 (b277_ + 1)) + 1)) + 1)) + 1))).bind fun b286_ =>
              if (decide (b286_ < 0)) = true then
                some (.ret (-1))
              else
                plaws_heldCellS_L1 k d275_ m b286_ (wr.i64 (b278_ + 1))
    else
      some (.done b277_)
/-- laws.heldCellS -/
def plaws_heldCellS (k : Nat) (d275_ : List GCell) (b276_ : Int) : Option Int :=
  (plaws_heldCellS_L1 k d275_ k b276_ 0).bind fun out1 => match out1 with
  | .ret r => some r
  | .done b279_ =>
    some b279_
theorem claws_heldCellS {k : Nat} {d275_ : List GCell} {b276_ : Int} {r : Int} (h : plaws_heldCellS k d275_ b276_ = some r) : FnO Try.prog 85 [.v (.sl (List.map GCell.c d275_)) [], .v (.int .i64 b276_) []] (.v (.int .i64 r) []) [] := by
  refine FnO.of Try.func85 (rfl : Try.f85.body = some _) (Nat.le_of_ble_eq_true (by kernel_rfl)) (Nat.le_of_ble_eq_true (by kernel_rfl)) ?_
  intro w0 X0 Fin pv0 pb
  unfold plaws_heldCellS at h
  refine Wc.seq ?_
  refine Wc.region [] [] [0, 1] [] [] ⟨[(0, (.v (.sl (List.map GCell.c d275_)), [])), (1, (.v (.int .i64 b276_), []))], [], []⟩ _ (by kernel_rfl) .nil ?_
  refine Wc.seq ?_
  refine Wc.seq ?_
  refine Wc.region [] [] [0, 1, 5] [] [] ⟨[(0, (.v (.sl (List.map GCell.c d275_)), [])), (1, (.v (.int .i64 b276_), [])), (5, (.v (.int .i64 0), []))], [], []⟩ _ (by kernel_rfl) .nil ?_
  obtain ⟨out1, h281, h⟩ := obind h
  refine Wc.lastJ (fun st => ∃ (b279_ : Int), out1 = .done b279_ ∧ st = ⟨[(1, (.v (.int .i64 b279_), []))], [], []⟩) ?_ ?_
  · refine Wc.block ?_
    refine Wc.loop (fun m st => ∃ (b277_ : Int) (b278_ : Int), st = ⟨[(0, (.v (.sl (List.map GCell.c d275_)), [])), (1, (.v (.int .i64 b277_), [])), (5, (.v (.int .i64 b278_), []))], [], []⟩ ∧ plaws_heldCellS_L1 k d275_ m b277_ b278_ = some out1) ?_ k ⟨_, _, rfl, h281⟩
    rintro m st ⟨b277_, b278_, rfl, h281⟩
    cases m with
    | zero => exact (onone h281).elim
    | succ m =>
      refine Wc.seq ?_
      refine Wc.seq ?_
      refine Wc.region [{}, {}, { v := some (.int .i64 (d275_.length : Int)) }] [] [0, 1, 5, 9] [] [] ⟨[(0, (.v (.sl (List.map GCell.c d275_)), [])), (1, (.v (.int .i64 b277_), [])), (5, (.v (.int .i64 b278_), [])), (9, (.v (.bool (decide (b278_ < (d275_.length : Int)))), []))], [], []⟩ _ (by kernel_rfl) (.cons (len_obl GCell.c d275_) .nil) ?_
      rcases oif h281 with ⟨h282, h281⟩ | ⟨h282, h281⟩
      · refine Wc.condT h282 (by kernel_rfl) ?_
        refine Wc.fix (st' := ⟨[(0, (.v (.sl (List.map GCell.c d275_)), [])), (1, (.v (.int .i64 b277_), [])), (5, (.v (.int .i64 b278_), []))], [], []⟩) [] [0, 1, 5] [] [] (by kernel_rfl) ?_
        refine Wc.skip ?_
        refine Wc.seq ?_
        refine Wc.block ?_
        refine Wc.seq ?_
        refine Wc.seq ?_
        obtain ⟨c280_, h283, h281⟩ := obind h281
        refine Wc.region [{}, {}, { v := some (.vptr [.int .i64 c280_.gKind, .str c280_.gName, .int .i64 c280_.gNum, .int .i64 c280_.gTo, .sl (List.map cI.i64 c280_.gKids)]) }] [] [0, 1, 5, 18] [] [] ⟨[(0, (.v (.sl (List.map GCell.c d275_)), [])), (1, (.v (.int .i64 b277_), [])), (5, (.v (.int .i64 b278_), [])), (18, (.v (.bool (c280_.gKind != b277_)), []))], [], []⟩ _ (by kernel_rfl) (.cons (at_obl (c := GCell.c) (GCell.c_eq c280_) GCell.c_len h283) (.cons (len_ok 1 [.int .i64 c280_.gKind, .str c280_.gName, .int .i64 c280_.gNum, .int .i64 c280_.gTo, .sl (List.map cI.i64 c280_.gKids)]) .nil)) ?_
        rcases oif h281 with ⟨h284, h281⟩ | ⟨h284, h281⟩
        · refine Wc.condT h284 (by kernel_rfl) ?_
          refine Wc.seq ?_
          refine Wc.region [] [] [4] [] [] ⟨[(4, (.v (.int .i64 (-1)), []))], [], []⟩ _ (by kernel_rfl) .nil ?_
          refine Wc.ret ?_
          obtain rfl := Option.some.inj h281
          obtain rfl := Option.some.inj h
          exact ⟨.inl rfl, by kernel_rfl, by kernel_rfl⟩
        · refine Wc.condF h284 (by kernel_rfl) ?_
          refine Wc.fix (st' := ⟨[(0, (.v (.sl (List.map GCell.c d275_)), [])), (1, (.v (.int .i64 b277_), [])), (5, (.v (.int .i64 b278_), []))], [], []⟩) [] [0, 1, 5] [] [] (by kernel_rfl) ?_
          refine Wc.skip ?_
          refine Wc.seq ?_
          refine Wc.region [] [] [0, 1, 5] [] [] ⟨[(0, (.v (.sl (List.map GCell.c d275_)), [])), (1, (.v (.int .i64 (wr.i64 (b277_ + 1))), [])), (5, (.v (.int .i64 b278_), []))], [], []⟩ _ (by kernel_rfl) .nil ?_
          refine Wc.seq ?_
          refine Wc.seq ?_
          obtain ⟨c281_, h285, h281⟩ := obind h281
          obtain ⟨p282_, h286, h281⟩ := obind h281
          refine Wc.draw hmix [{}, {}, { v := some (.vptr [.int .i64 c281_.gKind, .str c281_.gName, .int .i64 c281_.gNum, .int .i64 c281_.gTo, .sl (List.map cI.i64 c281_.gKids)]) }, {}, {}, {}, { r := some (.v (.str p282_) []) }] [] [0, 1, 5, 28] [] [] ⟨[(0, (.v (.sl (List.map GCell.c d275_)), [])), (1, (.v (.int .i64 (wr.i64 (b277_ + 1))), [])), (5, (.v (.int .i64 b278_), [])), (28, (.v (.bool (!(sEq c281_.gName p282_))), []))], [], []⟩ _ (by kernel_rfl) (fun X => by kernel_rfl) (.cons (at_obl (c := GCell.c) (GCell.c_eq c281_) GCell.c_len h285) (.cons (len_ok 1 [.str c281_.gName, .int .i64 c281_.gNum, .int .i64 c281_.gTo, .sl (List.map cI.i64 c281_.gKids)]) (.cons (claws_markText h286) .nil))) ?_
          rcases oif h281 with ⟨h287, h281⟩ | ⟨h287, h281⟩
          · refine Wc.condT h287 (by kernel_rfl) ?_
            refine Wc.seq ?_
            refine Wc.region [] [] [4] [] [] ⟨[(4, (.v (.int .i64 (-1)), []))], [], []⟩ _ (by kernel_rfl) .nil ?_
            refine Wc.ret ?_
            obtain rfl := Option.some.inj h281
            obtain rfl := Option.some.inj h
            exact ⟨.inl rfl, by kernel_rfl, by kernel_rfl⟩
          · refine Wc.condF h287 (by kernel_rfl) ?_
            refine Wc.fix (st' := ⟨[(0, (.v (.sl (List.map GCell.c d275_)), [])), (1, (.v (.int .i64 (wr.i64 (b277_ + 1))), [])), (5, (.v (.int .i64 b278_), []))], [], []⟩) [] [0, 1, 5] [] [] (by kernel_rfl) ?_
            refine Wc.skip ?_
            refine Wc.seq ?_
            refine Wc.region [] [] [0, 1, 5] [] [] ⟨[(0, (.v (.sl (List.map GCell.c d275_)), [])), (1, (.v (.int .i64 (wr.i64 ((wr.i64 (b277_ + 1)) + 1))), [])), (5, (.v (.int .i64 b278_), []))], [], []⟩ _ (by kernel_rfl) .nil ?_
            refine Wc.seq ?_
            refine Wc.seq ?_
            obtain ⟨c283_, h288, h281⟩ := obind h281
            refine Wc.region [{}, {}, { v := some (.vptr [.int .i64 c283_.gKind, .str c283_.gName, .int .i64 c283_.gNum, .int .i64 c283_.gTo, .sl (List.map cI.i64 c283_.gKids)]) }] [] [0, 1, 5, 37] [] [] ⟨[(0, (.v (.sl (List.map GCell.c d275_)), [])), (1, (.v (.int .i64 (wr.i64 ((wr.i64 (b277_ + 1)) + 1))), [])), (5, (.v (.int .i64 b278_), [])), (37, (.v (.bool (c283_.gNum != (wr.i64 ((wr.i64 (b277_ + 1)) + 1)))), []))], [], []⟩ _ (by kernel_rfl) (.cons (at_obl (c := GCell.c) (GCell.c_eq c283_) GCell.c_len h288) (.cons (len_ok 1 [.int .i64 c283_.gNum, .int .i64 c283_.gTo, .sl (List.map cI.i64 c283_.gKids)]) .nil)) ?_
            rcases oif h281 with ⟨h289, h281⟩ | ⟨h289, h281⟩
            · refine Wc.condT h289 (by kernel_rfl) ?_
              refine Wc.seq ?_
              refine Wc.region [] [] [4] [] [] ⟨[(4, (.v (.int .i64 (-1)), []))], [], []⟩ _ (by kernel_rfl) .nil ?_
              refine Wc.ret ?_
              obtain rfl := Option.some.inj h281
              obtain rfl := Option.some.inj h
              exact ⟨.inl rfl, by kernel_rfl, by kernel_rfl⟩
            · refine Wc.condF h289 (by kernel_rfl) ?_
              refine Wc.fix (st' := ⟨[(0, (.v (.sl (List.map GCell.c d275_)), [])), (1, (.v (.int .i64 (wr.i64 ((wr.i64 (b277_ + 1)) + 1))), [])), (5, (.v (.int .i64 b278_), []))], [], []⟩) [] [0, 1, 5] [] [] (by kernel_rfl) ?_
              refine Wc.skip ?_
              refine Wc.seq ?_
              refine Wc.region [] [] [0, 1, 5] [] [] ⟨[(0, (.v (.sl (List.map GCell.c d275_)), [])), (1, (.v (.int .i64 (wr.i64 ((wr.i64 ((wr.i64 (b277_ + 1)) + 1)) + 1))), [])), (5, (.v (.int .i64 b278_), []))], [], []⟩ _ (by kernel_rfl) .nil ?_
              refine Wc.seq ?_
              refine Wc.seq ?_
              obtain ⟨c284_, h290, h281⟩ := obind h281
              refine Wc.region [{}, {}, { v := some (.vptr [.int .i64 c284_.gKind, .str c284_.gName, .int .i64 c284_.gNum, .int .i64 c284_.gTo, .sl (List.map cI.i64 c284_.gKids)]) }] [] [0, 1, 5, 46] [] [] ⟨[(0, (.v (.sl (List.map GCell.c d275_)), [])), (1, (.v (.int .i64 (wr.i64 ((wr.i64 ((wr.i64 (b277_ + 1)) + 1)) + 1))), [])), (5, (.v (.int .i64 b278_), [])), (46, (.v (.bool (c284_.gTo != (wr.i64 ((wr.i64 ((wr.i64 (b277_ + 1)) + 1)) + 1)))), []))], [], []⟩ _ (by kernel_rfl) (.cons (at_obl (c := GCell.c) (GCell.c_eq c284_) GCell.c_len h290) (.cons (len_ok 1 [.int .i64 c284_.gTo, .sl (List.map cI.i64 c284_.gKids)]) .nil)) ?_
              rcases oif h281 with ⟨h291, h281⟩ | ⟨h291, h281⟩
              · refine Wc.condT h291 (by kernel_rfl) ?_
                refine Wc.seq ?_
                refine Wc.region [] [] [4] [] [] ⟨[(4, (.v (.int .i64 (-1)), []))], [], []⟩ _ (by kernel_rfl) .nil ?_
                refine Wc.ret ?_
                obtain rfl := Option.some.inj h281
                obtain rfl := Option.some.inj h
                exact ⟨.inl rfl, by kernel_rfl, by kernel_rfl⟩
              · refine Wc.condF h291 (by kernel_rfl) ?_
                refine Wc.fix (st' := ⟨[(0, (.v (.sl (List.map GCell.c d275_)), [])), (1, (.v (.int .i64 (wr.i64 ((wr.i64 ((wr.i64 (b277_ + 1)) + 1)) + 1))), [])), (5, (.v (.int .i64 b278_), []))], [], []⟩) [] [0, 1, 5] [] [] (by kernel_rfl) ?_
                refine Wc.skip ?_
                refine Wc.seq ?_
                refine Wc.region [] [] [0, 1, 5] [] [] ⟨[(0, (.v (.sl (List.map GCell.c d275_)), [])), (1, (.v (.int .i64 (wr.i64 ((wr.i64 ((wr.i64 ((wr.i64 (b277_ + 1)) + 1)) + 1)) + 1))), [])), (5, (.v (.int .i64 b278_), []))], [], []⟩ _ (by kernel_rfl) .nil ?_
                refine Wc.seq ?_
                obtain ⟨c285_, h292, h281⟩ := obind h281
                obtain ⟨b286_, h293, h281⟩ := obind h281
                refine Wc.region [{}, {}, { v := some (.vptr [.int .i64 c285_.gKind, .str c285_.gName, .int .i64 c285_.gNum, .int .i64 c285_.gTo, .sl (List.map cI.i64 c285_.gKids)]) }, {}, {}, {}, { r := some (.v (.int .i64 b286_) []) }] [] [0, 1, 5] [] [] ⟨[(0, (.v (.sl (List.map GCell.c d275_)), [])), (1, (.v (.int .i64 b286_), [])), (5, (.v (.int .i64 b278_), []))], [], []⟩ _ (by kernel_rfl) (.cons (at_obl (c := GCell.c) (GCell.c_eq c285_) GCell.c_len h292) (.cons (len_ok 1 [.sl (List.map cI.i64 c285_.gKids)]) (.cons (claws_heldIntS h293) .nil))) ?_
                refine Wc.seq ?_
                refine Wc.region [] [] [0, 1, 5, 57] [] [] ⟨[(0, (.v (.sl (List.map GCell.c d275_)), [])), (1, (.v (.int .i64 b286_), [])), (5, (.v (.int .i64 b278_), [])), (57, (.v (.bool (decide (b286_ < 0))), []))], [], []⟩ _ (by kernel_rfl) .nil ?_
                rcases oif h281 with ⟨h294, h281⟩ | ⟨h294, h281⟩
                · refine Wc.condT h294 (by kernel_rfl) ?_
                  refine Wc.seq ?_
                  refine Wc.region [] [] [4] [] [] ⟨[(4, (.v (.int .i64 (-1)), []))], [], []⟩ _ (by kernel_rfl) .nil ?_
                  refine Wc.ret ?_
                  obtain rfl := Option.some.inj h281
                  obtain rfl := Option.some.inj h
                  exact ⟨.inl rfl, by kernel_rfl, by kernel_rfl⟩
                · refine Wc.condF h294 (by kernel_rfl) ?_
                  refine Wc.fix (st' := ⟨[(0, (.v (.sl (List.map GCell.c d275_)), [])), (1, (.v (.int .i64 b286_), [])), (5, (.v (.int .i64 b278_), []))], [], []⟩) [] [0, 1, 5] [] [] (by kernel_rfl) ?_
                  refine Wc.skip ?_
                  refine Wc.region [] [] [0, 1, 5] [] [] ⟨[(0, (.v (.sl (List.map GCell.c d275_)), [])), (1, (.v (.int .i64 b286_), [])), (5, (.v (.int .i64 (wr.i64 (b278_ + 1))), []))], [], []⟩ _ (by kernel_rfl) .nil ?_
                  exact ⟨_, Nat.lt_succ_self _, _, _, rfl, h281⟩
      · refine Wc.condF h282 (by kernel_rfl) ?_
        refine Wc.fix (st' := ⟨[(1, (.v (.int .i64 b277_), []))], [], []⟩) [] [1] [] [] (by kernel_rfl) ?_
        refine Wc.exit ?_
        obtain rfl := Option.some.inj h281
        exact ⟨_, rfl, rfl⟩
  · rintro st ⟨b279_, rfl, rfl⟩
    refine Wc.seq ?_
    refine Wc.region [] [] [4] [] [] ⟨[(4, (.v (.int .i64 b279_), []))], [], []⟩ _ (by kernel_rfl) .nil ?_
    refine Wc.ret ?_
    obtain rfl := Option.some.inj h
    exact ⟨.inl rfl, by kernel_rfl, by kernel_rfl⟩

/-- laws.heldHeap -/
def plaws_heldHeap (k : Nat) (e287_ : GHeap) (b288_ : Int) : Option Int :=
  (plaws_heldCellS k e287_.gCells b288_).bind fun b289_ =>
  if (decide (b289_ < 0)) = true then
    some (-1)
  else
    (plaws_heldIntS k e287_.gTrail b289_).bind fun b290_ =>
    if (decide (b290_ < 0)) = true then
      some (-1)
    else
      some b290_
theorem claws_heldHeap {k : Nat} {e287_ : GHeap} {b288_ : Int} {r : Int} (h : plaws_heldHeap k e287_ b288_ = some r) : FnO Try.prog 42 [.v (.agg [.sl (List.map GCell.c e287_.gCells), .sl (List.map cI.i64 e287_.gTrail)]) [], .v (.int .i64 b288_) []] (.v (.int .i64 r) []) [] := by
  refine FnO.of Try.func42 (rfl : Try.f42.body = some _) (Nat.le_of_ble_eq_true (by kernel_rfl)) (Nat.le_of_ble_eq_true (by kernel_rfl)) ?_
  intro w0 X0 Fin pv0 pb
  unfold plaws_heldHeap at h
  refine Wc.seq ?_
  refine Wc.region [] [] [1, 2] [2] [] ⟨[(1, (.v (.int .i64 b288_), [])), (2, (.ptr 2 0, []))], [(2, .cells [.sl (List.map GCell.c e287_.gCells), .sl (List.map cI.i64 e287_.gTrail)] [])], []⟩ _ (by kernel_rfl) .nil ?_
  refine Wc.seq ?_
  obtain ⟨b289_, h295, h⟩ := obind h
  refine Wc.region [{}, {}, {}, { r := some (.v (.int .i64 b289_) []) }] [] [1, 2] [2] [] ⟨[(1, (.v (.int .i64 b289_), [])), (2, (.ptr 2 0, []))], [(2, .cells [.sl (List.map GCell.c e287_.gCells), .sl (List.map cI.i64 e287_.gTrail)] [])], []⟩ _ (by kernel_rfl) (.cons (claws_heldCellS h295) .nil) ?_
  refine Wc.seq ?_
  refine Wc.seq ?_
  refine Wc.region [] [] [1, 2, 10] [2] [] ⟨[(1, (.v (.int .i64 b289_), [])), (2, (.ptr 2 0, [])), (10, (.v (.bool (decide (b289_ < 0))), []))], [(2, .cells [.sl (List.map GCell.c e287_.gCells), .sl (List.map cI.i64 e287_.gTrail)] [])], []⟩ _ (by kernel_rfl) .nil ?_
  rcases oif h with ⟨h296, h⟩ | ⟨h296, h⟩
  · refine Wc.condT h296 (by kernel_rfl) ?_
    refine Wc.seq ?_
    refine Wc.region [] [] [4] [] [] ⟨[(4, (.v (.int .i64 (-1)), []))], [], []⟩ _ (by kernel_rfl) .nil ?_
    refine Wc.ret ?_
    obtain rfl := Option.some.inj h
    exact ⟨.inl rfl, by kernel_rfl, by kernel_rfl⟩
  · refine Wc.condF h296 (by kernel_rfl) ?_
    refine Wc.fix (st' := ⟨[(1, (.v (.int .i64 b289_), [])), (2, (.ptr 2 0, []))], [(2, .cells [.sl (List.map GCell.c e287_.gCells), .sl (List.map cI.i64 e287_.gTrail)] [])], []⟩) [] [1, 2] [2] [] (by kernel_rfl) ?_
    refine Wc.skip ?_
    refine Wc.seq ?_
    obtain ⟨b290_, h297, h⟩ := obind h
    refine Wc.region [{}, {}, {}, { r := some (.v (.int .i64 b290_) []) }] [] [1] [] [] ⟨[(1, (.v (.int .i64 b290_), []))], [], []⟩ _ (by kernel_rfl) (.cons (claws_heldIntS h297) .nil) ?_
    refine Wc.seq ?_
    refine Wc.seq ?_
    refine Wc.region [] [] [1, 16] [] [] ⟨[(1, (.v (.int .i64 b290_), [])), (16, (.v (.bool (decide (b290_ < 0))), []))], [], []⟩ _ (by kernel_rfl) .nil ?_
    rcases oif h with ⟨h298, h⟩ | ⟨h298, h⟩
    · refine Wc.condT h298 (by kernel_rfl) ?_
      refine Wc.seq ?_
      refine Wc.region [] [] [4] [] [] ⟨[(4, (.v (.int .i64 (-1)), []))], [], []⟩ _ (by kernel_rfl) .nil ?_
      refine Wc.ret ?_
      obtain rfl := Option.some.inj h
      exact ⟨.inl rfl, by kernel_rfl, by kernel_rfl⟩
    · refine Wc.condF h298 (by kernel_rfl) ?_
      refine Wc.fix (st' := ⟨[(1, (.v (.int .i64 b290_), []))], [], []⟩) [] [1] [] [] (by kernel_rfl) ?_
      refine Wc.skip ?_
      refine Wc.seq ?_
      refine Wc.region [] [] [4] [] [] ⟨[(4, (.v (.int .i64 b290_), []))], [], []⟩ _ (by kernel_rfl) .nil ?_
      refine Wc.ret ?_
      obtain rfl := Option.some.inj h
      exact ⟨.inl rfl, by kernel_rfl, by kernel_rfl⟩

def plaws_toIntS_d_L1 (k : Nat) (a298_ : List Int) : Nat → (List Int) → Int → Option (Out (List Int) (List Int))
  | 0, _, _ => none
  | m + 1, a299_, b300_ =>
    if (decide (b300_ < (a298_.length : Int))) = true then
      (at' a298_ b300_).bind fun b302_ =>
      (at' a299_ b300_).bind fun b303_ =>
      plaws_toIntS_d_L1 k a298_ m (a299_.set ((b300_).toNat) b302_) (wr.i64 (b300_ + 1))
    else
      some (.done a299_)
/-- laws.toIntS -/
def plaws_toIntS_d (k : Nat) (a298_ : List Int) : Option (List Int) :=
  if 0 ≤ (a298_.length : Int) ∧ (a298_.length : Int) ≤ 1073741824 then
    (plaws_toIntS_d_L1 k a298_ k (List.replicate ((a298_.length : Int)).toNat 0) 0).bind fun out1 => match out1 with
    | .ret r => some r
    | .done a301_ =>
      some a301_
  else none
theorem claws_toIntS_d {k : Nat} {a298_ : List Int} {r : (List Int)} (h : plaws_toIntS_d k a298_ = some r) : FnO Try.prog 30 [.v (.sl (List.map cI.i64 a298_)) []] (.v (.slx) [(0, .ex 3 true (List.map cI.i64 r))]) [] := by
  refine FnO.of Try.func30 (rfl : Try.f30.body = some _) (Nat.le_of_ble_eq_true (by kernel_rfl)) (Nat.le_of_ble_eq_true (by kernel_rfl)) ?_
  intro w0 X0 Fin pv0 pb
  unfold plaws_toIntS_d at h
  refine Wc.seq ?_
  refine Wc.region [] [] [0] [] [] ⟨[(0, (.v (.sl (List.map cI.i64 a298_)), []))], [], []⟩ _ (by kernel_rfl) .nil ?_
  refine Wc.seq ?_
  obtain ⟨h304, h⟩ := oguard h
  refine Wc.region [{}, { v := some (.int .i64 (a298_.length : Int)) }, { c := some (List.map cI.i64 (List.replicate ((a298_.length : Int)).toNat 0)) }, { tk := [7] }] [] [0, 3] [] [] ⟨[(0, (.v (.sl (List.map cI.i64 a298_)), [])), (3, (.v (.slx), [(0, .ex 3 true (List.map cI.i64 (List.replicate ((a298_.length : Int)).toNat 0)))]))], [], []⟩ _ (by kernel_rfl) (.cons (len_obl cI.i64 a298_) (.cons (rep_re (c := cI.i64) (z := 0) rfl ((a298_.length : Int)).toNat) (.cons (ms_obl h304) .nil))) ?_
  refine Wc.seq ?_
  refine Wc.seq ?_
  refine Wc.region [] [] [0, 3, 4] [] [] ⟨[(0, (.v (.sl (List.map cI.i64 a298_)), [])), (3, (.v (.slx), [(0, .ex 3 true (List.map cI.i64 (List.replicate ((a298_.length : Int)).toNat 0)))])), (4, (.v (.int .i64 0), []))], [], []⟩ _ (by kernel_rfl) .nil ?_
  obtain ⟨out1, h305, h⟩ := obind h
  refine Wc.lastJ (fun st => ∃ (a301_ : List Int), out1 = .done a301_ ∧ st = ⟨[(3, (.v (.slx), [(0, .ex 3 true (List.map cI.i64 a301_))]))], [], []⟩) ?_ ?_
  · refine Wc.block ?_
    refine Wc.loop (fun m st => ∃ (a299_ : List Int) (b300_ : Int), st = ⟨[(0, (.v (.sl (List.map cI.i64 a298_)), [])), (3, (.v (.slx), [(0, .ex 3 true (List.map cI.i64 a299_))])), (4, (.v (.int .i64 b300_), []))], [], []⟩ ∧ plaws_toIntS_d_L1 k a298_ m a299_ b300_ = some out1) ?_ k ⟨_, _, rfl, h305⟩
    rintro m st ⟨a299_, b300_, rfl, h305⟩
    cases m with
    | zero => exact (onone h305).elim
    | succ m =>
      refine Wc.seq ?_
      refine Wc.seq ?_
      refine Wc.region [{}, {}, { v := some (.int .i64 (a298_.length : Int)) }] [] [0, 3, 4, 11] [] [] ⟨[(0, (.v (.sl (List.map cI.i64 a298_)), [])), (3, (.v (.slx), [(0, .ex 3 true (List.map cI.i64 a299_))])), (4, (.v (.int .i64 b300_), [])), (11, (.v (.bool (decide (b300_ < (a298_.length : Int)))), []))], [], []⟩ _ (by kernel_rfl) (.cons (len_obl cI.i64 a298_) .nil) ?_
      rcases oif h305 with ⟨h306, h305⟩ | ⟨h306, h305⟩
      · refine Wc.condT h306 (by kernel_rfl) ?_
        refine Wc.fix (st' := ⟨[(0, (.v (.sl (List.map cI.i64 a298_)), [])), (3, (.v (.slx), [(0, .ex 3 true (List.map cI.i64 a299_))])), (4, (.v (.int .i64 b300_), []))], [], []⟩) [] [0, 3, 4] [] [] (by kernel_rfl) ?_
        refine Wc.skip ?_
        refine Wc.seq ?_
        refine Wc.block ?_
        obtain ⟨b302_, h307, h305⟩ := obind h305
        obtain ⟨b303_, h308, h305⟩ := obind h305
        refine Wc.region [{}, {}, {}, {}, { v := some (.vptr [.int .i64 b302_]) }, {}, {}, { c := some (List.map cI.i64 (a299_.set ((b300_).toNat) b302_)) }] [] [0, 3, 4] [] [] ⟨[(0, (.v (.sl (List.map cI.i64 a298_)), [])), (3, (.v (.slx), [(0, .ex 3 true (List.map cI.i64 (a299_.set ((b300_).toNat) b302_)))])), (4, (.v (.int .i64 b300_), []))], [], []⟩ _ (by kernel_rfl) (.cons (at_obl (c := cI.i64) rfl cI.i64_len h307) (.cons (len_ok 1 [.int .i64 b302_]) (.cons (ix_obl (c := cI.i64) cI.i64_len h308) (.cons (mod_obl (off := 0) (new := [.int .i64 b302_]) (c := cI.i64) rfl rfl (at'_spec h308).2 rfl) (.cons (st_obl (sz := 1) (off := 0) (s := 1) (c := cI.i64) rfl (at'_spec h308).2 rfl (Nat.le_of_ble_eq_true rfl)) .nil))))) ?_
        refine Wc.region [] [] [0, 3, 4] [] [] ⟨[(0, (.v (.sl (List.map cI.i64 a298_)), [])), (3, (.v (.slx), [(0, .ex 3 true (List.map cI.i64 (a299_.set ((b300_).toNat) b302_)))])), (4, (.v (.int .i64 (wr.i64 (b300_ + 1))), []))], [], []⟩ _ (by kernel_rfl) .nil ?_
        exact ⟨_, Nat.lt_succ_self _, _, _, rfl, h305⟩
      · refine Wc.condF h306 (by kernel_rfl) ?_
        refine Wc.fix (st' := ⟨[(3, (.v (.slx), [(0, .ex 3 true (List.map cI.i64 a299_))]))], [], []⟩) [] [3] [] [] (by kernel_rfl) ?_
        refine Wc.exit ?_
        obtain rfl := Option.some.inj h305
        exact ⟨_, rfl, rfl⟩
  · rintro st ⟨a301_, rfl, rfl⟩
    refine Wc.seq ?_
    refine Wc.region [{ tk := [3] }, { tk := [21] }] [] [2] [] [] ⟨[(2, (.v (.slx), [(0, .ex 3 true (List.map cI.i64 a301_))]))], [], []⟩ _ (by kernel_rfl) .nil ?_
    refine Wc.ret ?_
    obtain rfl := Option.some.inj h
    exact ⟨.inl rfl, by kernel_rfl, by kernel_rfl⟩

/-- laws.toCell -/
def plaws_toCell_d (k : Nat) (c296_ : GCell) : Option GCell :=
  (plaws_toIntS_d k c296_.gKids).bind fun l297_ =>
  some (GCell.mk c296_.gKind c296_.gName c296_.gNum c296_.gTo l297_)
theorem claws_toCell_d {k : Nat} {c296_ : GCell} {r : GCell} (h : plaws_toCell_d k c296_ = some r) : FnO Try.prog 119 [.v (.agg [.int .i64 c296_.gKind, .str c296_.gName, .int .i64 c296_.gNum, .int .i64 c296_.gTo, .sl (List.map cI.i64 c296_.gKids)]) []] (.v (.agg [.int .i64 r.gKind, .str r.gName, .int .i64 r.gNum, .int .i64 r.gTo, .slx]) [(4, .ex 3 true (List.map cI.i64 r.gKids))]) [] := by
  refine FnO.of Try.func119 (rfl : Try.f119.body = some _) (Nat.le_of_ble_eq_true (by kernel_rfl)) (Nat.le_of_ble_eq_true (by kernel_rfl)) ?_
  intro w0 X0 Fin pv0 pb
  unfold plaws_toCell_d at h
  refine Wc.seq ?_
  refine Wc.region [] [] [1, 2] [1, 2] [] ⟨[(1, (.ptr 1 0, [])), (2, (.ptr 2 0, []))], [(1, .cells [.int .i64 c296_.gKind, .str c296_.gName, .int .i64 c296_.gNum, .int .i64 c296_.gTo, .sl (List.map cI.i64 c296_.gKids)] []), (2, .cells [.int .i64 0, .str (bs []), .int .i64 0, .int .i64 0, .sl (List.map cI.i64 [])] [(4, .app 3)])], []⟩ _ (by kernel_rfl) .nil ?_
  refine Wc.seq ?_
  refine Wc.region [] [] [1, 2, 3] [1, 2, 3] [] ⟨[(1, (.ptr 1 0, [])), (2, (.ptr 2 0, [])), (3, (.ptr 3 0, []))], [(1, .cells [.int .i64 c296_.gKind, .str c296_.gName, .int .i64 c296_.gNum, .int .i64 c296_.gTo, .sl (List.map cI.i64 c296_.gKids)] []), (2, .cells [.int .i64 0, .str (bs []), .int .i64 0, .int .i64 0, .sl (List.map cI.i64 [])] [(4, .app 3)]), (3, .cells [.int .i64 0, .str (bs []), .int .i64 0, .int .i64 0, .sl (List.map cI.i64 [])] [(4, .app 3)])], []⟩ _ (by kernel_rfl) .nil ?_
  refine Wc.seq ?_
  refine Wc.region [] [] [1, 2, 3] [1, 2, 3] [] ⟨[(1, (.ptr 1 0, [])), (2, (.ptr 2 0, [])), (3, (.ptr 3 0, []))], [(1, .cells [.int .i64 c296_.gKind, .str c296_.gName, .int .i64 c296_.gNum, .int .i64 c296_.gTo, .sl (List.map cI.i64 c296_.gKids)] []), (2, .cells [.int .i64 0, .str (bs []), .int .i64 0, .int .i64 0, .sl (List.map cI.i64 [])] [(4, .app 3)]), (3, .cells [.int .i64 c296_.gKind, .str (bs []), .int .i64 0, .int .i64 0, .sl (List.map cI.i64 [])] [(4, .app 3)])], []⟩ _ (by kernel_rfl) .nil ?_
  refine Wc.seq ?_
  refine Wc.region [] [] [1, 2, 3] [1, 2, 3] [] ⟨[(1, (.ptr 1 0, [])), (2, (.ptr 2 0, [])), (3, (.ptr 3 0, []))], [(1, .cells [.int .i64 c296_.gKind, .str c296_.gName, .int .i64 c296_.gNum, .int .i64 c296_.gTo, .sl (List.map cI.i64 c296_.gKids)] []), (2, .cells [.int .i64 0, .str (bs []), .int .i64 0, .int .i64 0, .sl (List.map cI.i64 [])] [(4, .app 3)]), (3, .cells [.int .i64 c296_.gKind, .str c296_.gName, .int .i64 0, .int .i64 0, .sl (List.map cI.i64 [])] [(4, .app 3)])], []⟩ _ (by kernel_rfl) .nil ?_
  refine Wc.seq ?_
  refine Wc.region [] [] [1, 2, 3] [1, 2, 3] [] ⟨[(1, (.ptr 1 0, [])), (2, (.ptr 2 0, [])), (3, (.ptr 3 0, []))], [(1, .cells [.int .i64 c296_.gKind, .str c296_.gName, .int .i64 c296_.gNum, .int .i64 c296_.gTo, .sl (List.map cI.i64 c296_.gKids)] []), (2, .cells [.int .i64 0, .str (bs []), .int .i64 0, .int .i64 0, .sl (List.map cI.i64 [])] [(4, .app 3)]), (3, .cells [.int .i64 c296_.gKind, .str c296_.gName, .int .i64 c296_.gNum, .int .i64 0, .sl (List.map cI.i64 [])] [(4, .app 3)])], []⟩ _ (by kernel_rfl) .nil ?_
  refine Wc.seq ?_
  refine Wc.region [] [] [1, 2, 3] [1, 2, 3] [] ⟨[(1, (.ptr 1 0, [])), (2, (.ptr 2 0, [])), (3, (.ptr 3 0, []))], [(1, .cells [.int .i64 c296_.gKind, .str c296_.gName, .int .i64 c296_.gNum, .int .i64 c296_.gTo, .sl (List.map cI.i64 c296_.gKids)] []), (2, .cells [.int .i64 0, .str (bs []), .int .i64 0, .int .i64 0, .sl (List.map cI.i64 [])] [(4, .app 3)]), (3, .cells [.int .i64 c296_.gKind, .str c296_.gName, .int .i64 c296_.gNum, .int .i64 c296_.gTo, .sl (List.map cI.i64 [])] [(4, .app 3)])], []⟩ _ (by kernel_rfl) .nil ?_
  refine Wc.seq ?_
  obtain ⟨l297_, h303, h⟩ := obind h
  refine Wc.region [{}, {}, { r := some (.v (.slx) [(0, .ex 3 true (List.map cI.i64 l297_))]) }, {}, { tk := [18] }] [] [2, 3] [2, 3] [] ⟨[(2, (.ptr 2 0, [])), (3, (.ptr 3 0, []))], [(2, .cells [.int .i64 0, .str (bs []), .int .i64 0, .int .i64 0, .sl (List.map cI.i64 [])] [(4, .app 3)]), (3, .cells [.int .i64 c296_.gKind, .str c296_.gName, .int .i64 c296_.gNum, .int .i64 c296_.gTo, .slx] [(4, .ex 3 true (List.map cI.i64 l297_))])], []⟩ _ (by kernel_rfl) (.cons (claws_toIntS_d h303) .nil) ?_
  refine Wc.seq ?_
  refine Wc.region [{ md := 1 }, { tk := [20] }] [] [2] [2] [] ⟨[(2, (.ptr 2 0, []))], [(2, .cells [.int .i64 c296_.gKind, .str c296_.gName, .int .i64 c296_.gNum, .int .i64 c296_.gTo, .slx] [(4, .ex 3 true (List.map cI.i64 l297_))])], []⟩ _ (by kernel_rfl) .nil ?_
  refine Wc.ret ?_
  obtain rfl := Option.some.inj h
  exact ⟨.inl rfl, by kernel_rfl, by kernel_rfl⟩

def plaws_toCellS_d_L1 (k : Nat) (d299_ : List GCell) : Nat → (List GCell) → Int → Option (Out (List GCell) (List GCell))
  | 0, _, _ => none
  | m + 1, d300_, b301_ =>
    if (decide (b301_ < (d299_.length : Int))) = true then
      (at' d299_ b301_).bind fun c303_ =>
      (plaws_toCell_d k c303_).bind fun c304_ =>
      (at' d300_ b301_).bind fun c305_ =>
      plaws_toCellS_d_L1 k d299_ m (d300_.set ((b301_).toNat) c304_) (wr.i64 (b301_ + 1))
    else
      some (.done d300_)
/-- laws.toCellS -/
def plaws_toCellS_d (k : Nat) (d299_ : List GCell) : Option (List GCell) :=
  if 0 ≤ (d299_.length : Int) ∧ (d299_.length : Int) ≤ 1073741824 then
    (plaws_toCellS_d_L1 k d299_ k (List.replicate ((d299_.length : Int)).toNat (GCell.mk 0 (bs []) 0 0 [])) 0).bind fun out1 => match out1 with
    | .ret r => some r
    | .done d302_ =>
      some d302_
  else none
theorem claws_toCellS_d {k : Nat} {d299_ : List GCell} {r : (List GCell)} (h : plaws_toCellS_d k d299_ = some r) : FnO Try.prog 78 [.v (.sl (List.map GCell.c d299_)) []] (.v (.slx) [(0, .ex 110 true (List.map GCell.c r))]) [] := by
  refine FnO.of Try.func78 (rfl : Try.f78.body = some _) (Nat.le_of_ble_eq_true (by kernel_rfl)) (Nat.le_of_ble_eq_true (by kernel_rfl)) ?_
  intro w0 X0 Fin pv0 pb
  unfold plaws_toCellS_d at h
  refine Wc.seq ?_
  refine Wc.region [] [] [0] [] [] ⟨[(0, (.v (.sl (List.map GCell.c d299_)), []))], [], []⟩ _ (by kernel_rfl) .nil ?_
  refine Wc.seq ?_
  obtain ⟨h305, h⟩ := oguard h
  refine Wc.region [{}, { v := some (.int .i64 (d299_.length : Int)) }, { c := some (List.map GCell.c (List.replicate ((d299_.length : Int)).toNat (GCell.mk 0 (bs []) 0 0 []))) }, { tk := [7] }] [] [0, 3] [] [] ⟨[(0, (.v (.sl (List.map GCell.c d299_)), [])), (3, (.v (.slx), [(0, .ex 110 true (List.map GCell.c (List.replicate ((d299_.length : Int)).toNat (GCell.mk 0 (bs []) 0 0 []))))]))], [], []⟩ _ (by kernel_rfl) (.cons (len_obl GCell.c d299_) (.cons (rep_re (c := GCell.c) (z := (GCell.mk 0 (bs []) 0 0 [])) (GCell.c_eq (GCell.mk 0 (bs []) 0 0 [])) ((d299_.length : Int)).toNat) (.cons (ms_obl h305) .nil))) ?_
  refine Wc.seq ?_
  refine Wc.seq ?_
  refine Wc.region [] [] [0, 3, 4] [] [] ⟨[(0, (.v (.sl (List.map GCell.c d299_)), [])), (3, (.v (.slx), [(0, .ex 110 true (List.map GCell.c (List.replicate ((d299_.length : Int)).toNat (GCell.mk 0 (bs []) 0 0 []))))])), (4, (.v (.int .i64 0), []))], [], []⟩ _ (by kernel_rfl) .nil ?_
  obtain ⟨out1, h306, h⟩ := obind h
  refine Wc.lastJ (fun st => ∃ (d302_ : List GCell), out1 = .done d302_ ∧ st = ⟨[(3, (.v (.slx), [(0, .ex 110 true (List.map GCell.c d302_))]))], [], []⟩) ?_ ?_
  · refine Wc.block ?_
    refine Wc.loop (fun m st => ∃ (d300_ : List GCell) (b301_ : Int), st = ⟨[(0, (.v (.sl (List.map GCell.c d299_)), [])), (3, (.v (.slx), [(0, .ex 110 true (List.map GCell.c d300_))])), (4, (.v (.int .i64 b301_), []))], [], []⟩ ∧ plaws_toCellS_d_L1 k d299_ m d300_ b301_ = some out1) ?_ k ⟨_, _, rfl, h306⟩
    rintro m st ⟨d300_, b301_, rfl, h306⟩
    cases m with
    | zero => exact (onone h306).elim
    | succ m =>
      refine Wc.seq ?_
      refine Wc.seq ?_
      refine Wc.region [{}, {}, { v := some (.int .i64 (d299_.length : Int)) }] [] [0, 3, 4, 11] [] [] ⟨[(0, (.v (.sl (List.map GCell.c d299_)), [])), (3, (.v (.slx), [(0, .ex 110 true (List.map GCell.c d300_))])), (4, (.v (.int .i64 b301_), [])), (11, (.v (.bool (decide (b301_ < (d299_.length : Int)))), []))], [], []⟩ _ (by kernel_rfl) (.cons (len_obl GCell.c d299_) .nil) ?_
      rcases oif h306 with ⟨h307, h306⟩ | ⟨h307, h306⟩
      · refine Wc.condT h307 (by kernel_rfl) ?_
        refine Wc.fix (st' := ⟨[(0, (.v (.sl (List.map GCell.c d299_)), [])), (3, (.v (.slx), [(0, .ex 110 true (List.map GCell.c d300_))])), (4, (.v (.int .i64 b301_), []))], [], []⟩) [] [0, 3, 4] [] [] (by kernel_rfl) ?_
        refine Wc.skip ?_
        refine Wc.seq ?_
        refine Wc.block ?_
        obtain ⟨c303_, h308, h306⟩ := obind h306
        obtain ⟨c304_, h309, h306⟩ := obind h306
        obtain ⟨c305_, h310, h306⟩ := obind h306
        refine Wc.region [{}, {}, {}, {}, { v := some (.vptr [.int .i64 c303_.gKind, .str c303_.gName, .int .i64 c303_.gNum, .int .i64 c303_.gTo, .sl (List.map cI.i64 c303_.gKids)]) }, {}, { r := some (.v (.agg [.int .i64 c304_.gKind, .str c304_.gName, .int .i64 c304_.gNum, .int .i64 c304_.gTo, .slx]) [(4, .ex 3 true (List.map cI.i64 c304_.gKids))]) }, {}, { c := some (List.map GCell.c (d300_.set ((b301_).toNat) c304_)), tk := [20] }] [] [0, 3, 4] [] [] ⟨[(0, (.v (.sl (List.map GCell.c d299_)), [])), (3, (.v (.slx), [(0, .ex 110 true (List.map GCell.c (d300_.set ((b301_).toNat) c304_)))])), (4, (.v (.int .i64 b301_), []))], [], []⟩ _ (by kernel_rfl) (.cons (at_obl (c := GCell.c) (GCell.c_eq c303_) GCell.c_len h308) (.cons (len_ok 5 [.int .i64 c303_.gKind, .str c303_.gName, .int .i64 c303_.gNum, .int .i64 c303_.gTo, .sl (List.map cI.i64 c303_.gKids)]) (.cons (claws_toCell_d h309) (.cons (ix_obl (c := GCell.c) GCell.c_len h310) (.cons (mod_obl (off := 0) (new := [.int .i64 c304_.gKind, .str c304_.gName, .int .i64 c304_.gNum, .int .i64 c304_.gTo, .sl (List.map cI.i64 c304_.gKids)]) (c := GCell.c) (GCell.c_eq c305_) (GCell.c_eq c304_) (at'_spec h310).2 rfl) (.cons (st_obl (sz := 5) (off := 0) (s := 5) (c := GCell.c) (GCell.c_eq c305_) (at'_spec h310).2 rfl (Nat.le_of_ble_eq_true rfl)) .nil)))))) ?_
        refine Wc.region [] [] [0, 3, 4] [] [] ⟨[(0, (.v (.sl (List.map GCell.c d299_)), [])), (3, (.v (.slx), [(0, .ex 110 true (List.map GCell.c (d300_.set ((b301_).toNat) c304_)))])), (4, (.v (.int .i64 (wr.i64 (b301_ + 1))), []))], [], []⟩ _ (by kernel_rfl) .nil ?_
        exact ⟨_, Nat.lt_succ_self _, _, _, rfl, h306⟩
      · refine Wc.condF h307 (by kernel_rfl) ?_
        refine Wc.fix (st' := ⟨[(3, (.v (.slx), [(0, .ex 110 true (List.map GCell.c d300_))]))], [], []⟩) [] [3] [] [] (by kernel_rfl) ?_
        refine Wc.exit ?_
        obtain rfl := Option.some.inj h306
        exact ⟨_, rfl, rfl⟩
  · rintro st ⟨d302_, rfl, rfl⟩
    refine Wc.seq ?_
    refine Wc.region [{ tk := [3] }, { tk := [22] }] [] [2] [] [] ⟨[(2, (.v (.slx), [(0, .ex 110 true (List.map GCell.c d302_))]))], [], []⟩ _ (by kernel_rfl) .nil ?_
    refine Wc.ret ?_
    obtain rfl := Option.some.inj h
    exact ⟨.inl rfl, by kernel_rfl, by kernel_rfl⟩

/-- laws.toHeap -/
def plaws_toHeap_d (k : Nat) (e300_ : GHeap) : Option GHeap :=
  (plaws_toCellS_d k e300_.gCells).bind fun m301_ =>
  (plaws_toIntS_d k e300_.gTrail).bind fun l302_ =>
  some (GHeap.mk m301_ l302_)
theorem claws_toHeap_d {k : Nat} {e300_ : GHeap} {r : GHeap} (h : plaws_toHeap_d k e300_ = some r) : FnO Try.prog 38 [.v (.agg [.sl (List.map GCell.c e300_.gCells), .sl (List.map cI.i64 e300_.gTrail)]) []] (.v (.agg [.slx, .slx]) [(0, .ex 110 true (List.map GCell.c r.gCells)), (1, .ex 3 true (List.map cI.i64 r.gTrail))]) [] := by
  refine FnO.of Try.func38 (rfl : Try.f38.body = some _) (Nat.le_of_ble_eq_true (by kernel_rfl)) (Nat.le_of_ble_eq_true (by kernel_rfl)) ?_
  intro w0 X0 Fin pv0 pb
  unfold plaws_toHeap_d at h
  refine Wc.seq ?_
  refine Wc.region [] [] [1, 2] [1, 2] [] ⟨[(1, (.ptr 1 0, [])), (2, (.ptr 2 0, []))], [(1, .cells [.sl (List.map GCell.c e300_.gCells), .sl (List.map cI.i64 e300_.gTrail)] []), (2, .cells [.sl (List.map GCell.c []), .sl (List.map cI.i64 [])] [(0, .app 110), (1, .app 3)])], []⟩ _ (by kernel_rfl) .nil ?_
  refine Wc.seq ?_
  refine Wc.region [] [] [1, 2, 3] [1, 2, 3] [] ⟨[(1, (.ptr 1 0, [])), (2, (.ptr 2 0, [])), (3, (.ptr 3 0, []))], [(1, .cells [.sl (List.map GCell.c e300_.gCells), .sl (List.map cI.i64 e300_.gTrail)] []), (2, .cells [.sl (List.map GCell.c []), .sl (List.map cI.i64 [])] [(0, .app 110), (1, .app 3)]), (3, .cells [.sl (List.map GCell.c []), .sl (List.map cI.i64 [])] [(0, .app 110), (1, .app 3)])], []⟩ _ (by kernel_rfl) .nil ?_
  refine Wc.seq ?_
  obtain ⟨m301_, h305, h⟩ := obind h
  refine Wc.region [{}, {}, { r := some (.v (.slx) [(0, .ex 110 true (List.map GCell.c m301_))]) }, {}, { tk := [6] }] [.so 3] [1, 2, 3] [1, 2, 3] [] ⟨[(1, (.ptr 1 0, [])), (2, (.ptr 2 0, [])), (3, (.ptr 3 0, []))], [(1, .cells [.sl (List.map GCell.c e300_.gCells), .sl (List.map cI.i64 e300_.gTrail)] []), (2, .cells [.sl (List.map GCell.c []), .sl (List.map cI.i64 [])] [(0, .app 110), (1, .app 3)]), (3, .cells [.slx, .sl (List.map cI.i64 [])] [(0, .ex 110 true (List.map GCell.c m301_)), (1, .app 3)])], []⟩ _ (by kernel_rfl) (.cons (claws_toCellS_d h305) .nil) ?_
  refine Wc.seq ?_
  obtain ⟨l302_, h306, h⟩ := obind h
  refine Wc.region [{}, {}, { r := some (.v (.slx) [(0, .ex 3 true (List.map cI.i64 l302_))]) }, {}, { tk := [10] }] [] [2, 3] [2, 3] [] ⟨[(2, (.ptr 2 0, [])), (3, (.ptr 3 0, []))], [(2, .cells [.sl (List.map GCell.c []), .sl (List.map cI.i64 [])] [(0, .app 110), (1, .app 3)]), (3, .cells [.slx, .slx] [(0, .ex 110 true (List.map GCell.c m301_)), (1, .ex 3 true (List.map cI.i64 l302_))])], []⟩ _ (by kernel_rfl) (.cons (claws_toIntS_d h306) .nil) ?_
  refine Wc.seq ?_
  refine Wc.region [{ md := 1 }, { tk := [12] }] [] [2] [2] [] ⟨[(2, (.ptr 2 0, []))], [(2, .cells [.slx, .slx] [(0, .ex 110 true (List.map GCell.c m301_)), (1, .ex 3 true (List.map cI.i64 l302_))])], []⟩ _ (by kernel_rfl) .nil ?_
  refine Wc.ret ?_
  obtain rfl := Option.some.inj h
  exact ⟨.inl rfl, by kernel_rfl, by kernel_rfl⟩

/-- impl.BindCell -/
def pimpl_BindCell_d (k : Nat) (e309_ : GHeap) (b310_ : Int) (b311_ : Int) : Option (GHeap × Bool) :=
  (pimpl_copyHeap_d k e309_).bind fun e312_ =>
  (pimpl_HeapOk k e309_).bind fun g313_ =>
  if (!g313_) = true then
    some (e312_, false)
  else
    (pimpl_isCell k e309_ b310_).bind fun g314_ =>
    if (!g314_) = true then
      some (e312_, false)
    else
      (pimpl_isCell k e309_ b311_).bind fun g315_ =>
      if (!g315_) = true then
        some (e312_, false)
      else
        (at' e309_.gCells b310_).bind fun c316_ =>
        if (c316_.gKind != 1) = true then
          some (e312_, false)
        else
          (at' e309_.gCells b310_).bind fun c317_ =>
          if (c317_.gTo != (-1)) = true then
            some (e312_, false)
          else
            (pimpl_follow k e309_ b311_).bind fun b318_ =>
            if (b318_ == b310_) = true then
              some (e312_, false)
            else
              (at' e312_.gCells b310_).bind fun c319_ =>
              if e312_.gTrail.length + [b310_].length ≤ 1073741824 then
                some (GHeap.mk (e312_.gCells.set ((b310_).toNat) (GCell.mk c319_.gKind c319_.gName c319_.gNum b311_ c319_.gKids)) (e312_.gTrail ++ [b310_]), true)
              else none
set_option maxHeartbeats 4000000 in
theorem cimpl_BindCell_d {k : Nat} {e309_ : GHeap} {b310_ : Int} {b311_ : Int} {r : GHeap × Bool} (h : pimpl_BindCell_d k e309_ b310_ b311_ = some r) : FnO Try.prog 39 [.v (.agg [.sl (List.map GCell.c e309_.gCells), .sl (List.map cI.i64 e309_.gTrail)]) [], .v (.int .i64 b310_) [], .v (.int .i64 b311_) []] (.v (.tup [.agg [.slx, .slx], .bool r.2]) [(0, .ex 110 true (List.map GCell.c r.1.gCells)), (1, .ex 3 true (List.map cI.i64 r.1.gTrail))]) [] := by
  refine FnO.of Try.func39 (rfl : Try.f39.body = some _) (Nat.le_of_ble_eq_true (by kernel_rfl)) (Nat.le_of_ble_eq_true (by kernel_rfl)) ?_
  intro w0 X0 Fin pv0 pb
  unfold pimpl_BindCell_d at h
  refine Wc.seq ?_
  refine Wc.region [] [] [1, 2, 3, 6] [3, 6] [] ⟨[(1, (.v (.int .i64 b310_), [])), (2, (.v (.int .i64 b311_), [])), (3, (.ptr 3 0, [])), (6, (.ptr 6 0, []))], [(3, .cells [.sl (List.map GCell.c e309_.gCells), .sl (List.map cI.i64 e309_.gTrail)] []), (6, .cells [.sl (List.map GCell.c []), .sl (List.map cI.i64 [])] [(0, .app 110), (1, .app 3)])], []⟩ _ (by kernel_rfl) .nil ?_
  refine Wc.seq ?_
  obtain ⟨e312_, h319, h⟩ := obind h
  refine Wc.region [{}, { r := some (.v (.agg [.slx, .slx]) [(0, .ex 110 true (List.map GCell.c e312_.gCells)), (1, .ex 3 true (List.map cI.i64 e312_.gTrail))]) }, {}, { tk := [10] }] [] [1, 2, 3, 6, 8] [3, 6, 8] [] ⟨[(1, (.v (.int .i64 b310_), [])), (2, (.v (.int .i64 b311_), [])), (3, (.ptr 3 0, [])), (6, (.ptr 6 0, [])), (8, (.ptr 8 0, []))], [(3, .cells [.sl (List.map GCell.c e309_.gCells), .sl (List.map cI.i64 e309_.gTrail)] []), (6, .cells [.sl (List.map GCell.c []), .sl (List.map cI.i64 [])] [(0, .app 110), (1, .app 3)]), (8, .cells [.slx, .slx] [(0, .ex 110 true (List.map GCell.c e312_.gCells)), (1, .ex 3 true (List.map cI.i64 e312_.gTrail))])], []⟩ _ (by kernel_rfl) (.cons (cimpl_copyHeap_d h319) .nil) ?_
  refine Wc.seq ?_
  refine Wc.seq ?_
  obtain ⟨g313_, h320, h⟩ := obind h
  rcases oif h with ⟨h321, h⟩ | ⟨h321, h⟩
  · refine Wc.region [{}, { r := some (.v (.bool g313_) []) }, {}, { re := some (.bool true) }] [] [1, 2, 6, 8, 50] [6, 8] [] ⟨[(1, (.v (.int .i64 b310_), [])), (2, (.v (.int .i64 b311_), [])), (6, (.ptr 6 0, [])), (8, (.ptr 8 0, [])), (50, (.v (.bool true), []))], [(6, .cells [.sl (List.map GCell.c []), .sl (List.map cI.i64 [])] [(0, .app 110), (1, .app 3)]), (8, .cells [.slx, .slx] [(0, .ex 110 true (List.map GCell.c e312_.gCells)), (1, .ex 3 true (List.map cI.i64 e312_.gTrail))])], []⟩ _ (by kernel_rfl) (.cons (cimpl_HeapOk h320) (.cons (congrArg AV.bool h321) .nil)) ?_
    refine Wc.condT rfl (by kernel_rfl) ?_
    refine Wc.seq ?_
    refine Wc.region [{ md := 1 }, { tk := [51] }] [] [6, 7] [6] [] ⟨[(6, (.ptr 6 0, [])), (7, (.v (.bool false), []))], [(6, .cells [.slx, .slx] [(0, .ex 110 true (List.map GCell.c e312_.gCells)), (1, .ex 3 true (List.map cI.i64 e312_.gTrail))])], []⟩ _ (by kernel_rfl) .nil ?_
    refine Wc.ret ?_
    obtain rfl := Option.some.inj h
    exact ⟨.inl rfl, by kernel_rfl, by kernel_rfl⟩
  · obtain ⟨g314_, h322, h⟩ := obind h
    rcases oif h with ⟨h323, h⟩ | ⟨h323, h⟩
    · refine Wc.region [{}, { r := some (.v (.bool g313_) []) }, {}, { re := some (.bool false) }, {}, {}, { r := some (.v (.bool g314_) []) }, {}, {}, { re := some (.bool true) }] [] [1, 2, 6, 8, 50] [6, 8] [] ⟨[(1, (.v (.int .i64 b310_), [])), (2, (.v (.int .i64 b311_), [])), (6, (.ptr 6 0, [])), (8, (.ptr 8 0, [])), (50, (.v (.bool true), []))], [(6, .cells [.sl (List.map GCell.c []), .sl (List.map cI.i64 [])] [(0, .app 110), (1, .app 3)]), (8, .cells [.slx, .slx] [(0, .ex 110 true (List.map GCell.c e312_.gCells)), (1, .ex 3 true (List.map cI.i64 e312_.gTrail))])], []⟩ _ (by kernel_rfl) (.cons (cimpl_HeapOk h320) (.cons (congrArg AV.bool h321) (.cons (cimpl_isCell h322) (.cons (congrArg AV.bool h323) .nil)))) ?_
      refine Wc.condT rfl (by kernel_rfl) ?_
      refine Wc.seq ?_
      refine Wc.region [{ md := 1 }, { tk := [51] }] [] [6, 7] [6] [] ⟨[(6, (.ptr 6 0, [])), (7, (.v (.bool false), []))], [(6, .cells [.slx, .slx] [(0, .ex 110 true (List.map GCell.c e312_.gCells)), (1, .ex 3 true (List.map cI.i64 e312_.gTrail))])], []⟩ _ (by kernel_rfl) .nil ?_
      refine Wc.ret ?_
      obtain rfl := Option.some.inj h
      exact ⟨.inl rfl, by kernel_rfl, by kernel_rfl⟩
    · obtain ⟨g315_, h324, h⟩ := obind h
      rcases oif h with ⟨h325, h⟩ | ⟨h325, h⟩
      · refine Wc.region [{}, { r := some (.v (.bool g313_) []) }, {}, { re := some (.bool false) }, {}, {}, { r := some (.v (.bool g314_) []) }, {}, {}, { re := some (.bool false) }, {}, {}, { r := some (.v (.bool g315_) []) }, {}, {}, { re := some (.bool true) }] [] [1, 2, 6, 8, 50] [6, 8] [] ⟨[(1, (.v (.int .i64 b310_), [])), (2, (.v (.int .i64 b311_), [])), (6, (.ptr 6 0, [])), (8, (.ptr 8 0, [])), (50, (.v (.bool true), []))], [(6, .cells [.sl (List.map GCell.c []), .sl (List.map cI.i64 [])] [(0, .app 110), (1, .app 3)]), (8, .cells [.slx, .slx] [(0, .ex 110 true (List.map GCell.c e312_.gCells)), (1, .ex 3 true (List.map cI.i64 e312_.gTrail))])], []⟩ _ (by kernel_rfl) (.cons (cimpl_HeapOk h320) (.cons (congrArg AV.bool h321) (.cons (cimpl_isCell h322) (.cons (congrArg AV.bool h323) (.cons (cimpl_isCell h324) (.cons (congrArg AV.bool h325) .nil)))))) ?_
        refine Wc.condT rfl (by kernel_rfl) ?_
        refine Wc.seq ?_
        refine Wc.region [{ md := 1 }, { tk := [51] }] [] [6, 7] [6] [] ⟨[(6, (.ptr 6 0, [])), (7, (.v (.bool false), []))], [(6, .cells [.slx, .slx] [(0, .ex 110 true (List.map GCell.c e312_.gCells)), (1, .ex 3 true (List.map cI.i64 e312_.gTrail))])], []⟩ _ (by kernel_rfl) .nil ?_
        refine Wc.ret ?_
        obtain rfl := Option.some.inj h
        exact ⟨.inl rfl, by kernel_rfl, by kernel_rfl⟩
      · obtain ⟨c316_, h326, h⟩ := obind h
        rcases oif h with ⟨h327, h⟩ | ⟨h327, h⟩
        · refine Wc.region [{}, { r := some (.v (.bool g313_) []) }, {}, { re := some (.bool false) }, {}, {}, { r := some (.v (.bool g314_) []) }, {}, {}, { re := some (.bool false) }, {}, {}, { r := some (.v (.bool g315_) []) }, {}, {}, { re := some (.bool false) }, {}, {}, {}, { v := some (.vptr [.int .i64 c316_.gKind, .str c316_.gName, .int .i64 c316_.gNum, .int .i64 c316_.gTo, .sl (List.map cI.i64 c316_.gKids)]) }, {}, {}, {}, {}, { re := some (.bool true) }] [] [1, 2, 6, 8, 50] [6, 8] [] ⟨[(1, (.v (.int .i64 b310_), [])), (2, (.v (.int .i64 b311_), [])), (6, (.ptr 6 0, [])), (8, (.ptr 8 0, [])), (50, (.v (.bool true), []))], [(6, .cells [.sl (List.map GCell.c []), .sl (List.map cI.i64 [])] [(0, .app 110), (1, .app 3)]), (8, .cells [.slx, .slx] [(0, .ex 110 true (List.map GCell.c e312_.gCells)), (1, .ex 3 true (List.map cI.i64 e312_.gTrail))])], []⟩ _ (by kernel_rfl) (.cons (cimpl_HeapOk h320) (.cons (congrArg AV.bool h321) (.cons (cimpl_isCell h322) (.cons (congrArg AV.bool h323) (.cons (cimpl_isCell h324) (.cons (congrArg AV.bool h325) (.cons (at_obl (c := GCell.c) (GCell.c_eq c316_) GCell.c_len h326) (.cons (len_ok 1 [.int .i64 c316_.gKind, .str c316_.gName, .int .i64 c316_.gNum, .int .i64 c316_.gTo, .sl (List.map cI.i64 c316_.gKids)]) (.cons (congrArg AV.bool h327) .nil))))))))) ?_
          refine Wc.condT rfl (by kernel_rfl) ?_
          refine Wc.seq ?_
          refine Wc.region [{ md := 1 }, { tk := [51] }] [] [6, 7] [6] [] ⟨[(6, (.ptr 6 0, [])), (7, (.v (.bool false), []))], [(6, .cells [.slx, .slx] [(0, .ex 110 true (List.map GCell.c e312_.gCells)), (1, .ex 3 true (List.map cI.i64 e312_.gTrail))])], []⟩ _ (by kernel_rfl) .nil ?_
          refine Wc.ret ?_
          obtain rfl := Option.some.inj h
          exact ⟨.inl rfl, by kernel_rfl, by kernel_rfl⟩
        · obtain ⟨c317_, h328, h⟩ := obind h
          rcases oif h with ⟨h329, h⟩ | ⟨h329, h⟩
          · refine Wc.region [{}, { r := some (.v (.bool g313_) []) }, {}, { re := some (.bool false) }, {}, {}, { r := some (.v (.bool g314_) []) }, {}, {}, { re := some (.bool false) }, {}, {}, { r := some (.v (.bool g315_) []) }, {}, {}, { re := some (.bool false) }, {}, {}, {}, { v := some (.vptr [.int .i64 c316_.gKind, .str c316_.gName, .int .i64 c316_.gNum, .int .i64 c316_.gTo, .sl (List.map cI.i64 c316_.gKids)]) }, {}, {}, {}, {}, { re := some (.bool false) }, {}, {}, {}, { v := some (.vptr [.int .i64 c317_.gKind, .str c317_.gName, .int .i64 c317_.gNum, .int .i64 c317_.gTo, .sl (List.map cI.i64 c317_.gKids)]) }, {}, {}, {}, {}, { re := some (.bool true) }] [] [1, 2, 6, 8, 50] [6, 8] [] ⟨[(1, (.v (.int .i64 b310_), [])), (2, (.v (.int .i64 b311_), [])), (6, (.ptr 6 0, [])), (8, (.ptr 8 0, [])), (50, (.v (.bool true), []))], [(6, .cells [.sl (List.map GCell.c []), .sl (List.map cI.i64 [])] [(0, .app 110), (1, .app 3)]), (8, .cells [.slx, .slx] [(0, .ex 110 true (List.map GCell.c e312_.gCells)), (1, .ex 3 true (List.map cI.i64 e312_.gTrail))])], []⟩ _ (by kernel_rfl) (.cons (cimpl_HeapOk h320) (.cons (congrArg AV.bool h321) (.cons (cimpl_isCell h322) (.cons (congrArg AV.bool h323) (.cons (cimpl_isCell h324) (.cons (congrArg AV.bool h325) (.cons (at_obl (c := GCell.c) (GCell.c_eq c316_) GCell.c_len h326) (.cons (len_ok 1 [.int .i64 c316_.gKind, .str c316_.gName, .int .i64 c316_.gNum, .int .i64 c316_.gTo, .sl (List.map cI.i64 c316_.gKids)]) (.cons (congrArg AV.bool h327) (.cons (at_obl (c := GCell.c) (GCell.c_eq c317_) GCell.c_len h328) (.cons (len_ok 1 [.int .i64 c317_.gTo, .sl (List.map cI.i64 c317_.gKids)]) (.cons (congrArg AV.bool h329) .nil)))))))))))) ?_
            refine Wc.condT rfl (by kernel_rfl) ?_
            refine Wc.seq ?_
            refine Wc.region [{ md := 1 }, { tk := [51] }] [] [6, 7] [6] [] ⟨[(6, (.ptr 6 0, [])), (7, (.v (.bool false), []))], [(6, .cells [.slx, .slx] [(0, .ex 110 true (List.map GCell.c e312_.gCells)), (1, .ex 3 true (List.map cI.i64 e312_.gTrail))])], []⟩ _ (by kernel_rfl) .nil ?_
            refine Wc.ret ?_
            obtain rfl := Option.some.inj h
            exact ⟨.inl rfl, by kernel_rfl, by kernel_rfl⟩
          · obtain ⟨b318_, h330, h⟩ := obind h
            refine Wc.region [{}, { r := some (.v (.bool g313_) []) }, {}, { re := some (.bool false) }, {}, {}, { r := some (.v (.bool g314_) []) }, {}, {}, { re := some (.bool false) }, {}, {}, { r := some (.v (.bool g315_) []) }, {}, {}, { re := some (.bool false) }, {}, {}, {}, { v := some (.vptr [.int .i64 c316_.gKind, .str c316_.gName, .int .i64 c316_.gNum, .int .i64 c316_.gTo, .sl (List.map cI.i64 c316_.gKids)]) }, {}, {}, {}, {}, { re := some (.bool false) }, {}, {}, {}, { v := some (.vptr [.int .i64 c317_.gKind, .str c317_.gName, .int .i64 c317_.gNum, .int .i64 c317_.gTo, .sl (List.map cI.i64 c317_.gKids)]) }, {}, {}, {}, {}, { re := some (.bool false) }, {}, {}, { r := some (.v (.int .i64 b318_) []) }] [] [1, 2, 6, 8, 50] [6, 8] [] ⟨[(1, (.v (.int .i64 b310_), [])), (2, (.v (.int .i64 b311_), [])), (6, (.ptr 6 0, [])), (8, (.ptr 8 0, [])), (50, (.v (.bool (b318_ == b310_)), []))], [(6, .cells [.sl (List.map GCell.c []), .sl (List.map cI.i64 [])] [(0, .app 110), (1, .app 3)]), (8, .cells [.slx, .slx] [(0, .ex 110 true (List.map GCell.c e312_.gCells)), (1, .ex 3 true (List.map cI.i64 e312_.gTrail))])], []⟩ _ (by kernel_rfl) (.cons (cimpl_HeapOk h320) (.cons (congrArg AV.bool h321) (.cons (cimpl_isCell h322) (.cons (congrArg AV.bool h323) (.cons (cimpl_isCell h324) (.cons (congrArg AV.bool h325) (.cons (at_obl (c := GCell.c) (GCell.c_eq c316_) GCell.c_len h326) (.cons (len_ok 1 [.int .i64 c316_.gKind, .str c316_.gName, .int .i64 c316_.gNum, .int .i64 c316_.gTo, .sl (List.map cI.i64 c316_.gKids)]) (.cons (congrArg AV.bool h327) (.cons (at_obl (c := GCell.c) (GCell.c_eq c317_) GCell.c_len h328) (.cons (len_ok 1 [.int .i64 c317_.gTo, .sl (List.map cI.i64 c317_.gKids)]) (.cons (congrArg AV.bool h329) (.cons (cimpl_follow h330) .nil))))))))))))) ?_
            rcases oif h with ⟨h331, h⟩ | ⟨h331, h⟩
            · refine Wc.condT h331 (by kernel_rfl) ?_
              refine Wc.seq ?_
              refine Wc.region [{ md := 1 }, { tk := [51] }] [] [6, 7] [6] [] ⟨[(6, (.ptr 6 0, [])), (7, (.v (.bool false), []))], [(6, .cells [.slx, .slx] [(0, .ex 110 true (List.map GCell.c e312_.gCells)), (1, .ex 3 true (List.map cI.i64 e312_.gTrail))])], []⟩ _ (by kernel_rfl) .nil ?_
              refine Wc.ret ?_
              obtain rfl := Option.some.inj h
              exact ⟨.inl rfl, by kernel_rfl, by kernel_rfl⟩
            · refine Wc.condF h331 (by kernel_rfl) ?_
              refine Wc.fix (st' := ⟨[(1, (.v (.int .i64 b310_), [])), (2, (.v (.int .i64 b311_), [])), (6, (.ptr 6 0, [])), (8, (.ptr 8 0, []))], [(6, .cells [.sl (List.map GCell.c []), .sl (List.map cI.i64 [])] [(0, .app 110), (1, .app 3)]), (8, .cells [.slx, .slx] [(0, .ex 110 true (List.map GCell.c e312_.gCells)), (1, .ex 3 true (List.map cI.i64 e312_.gTrail))])], []⟩) [] [1, 2, 6, 8] [6, 8] [] (by kernel_rfl) ?_
              refine Wc.skip ?_
              refine Wc.seq ?_
              obtain ⟨c319_, h332, h⟩ := obind h
              refine Wc.region [{}, {}, {}, {}, {}, {}, { c := some (List.map GCell.c (e312_.gCells.set ((b310_).toNat) (GCell.mk c319_.gKind c319_.gName c319_.gNum b311_ c319_.gKids))) }] [] [1, 6, 8] [6, 8] [] ⟨[(1, (.v (.int .i64 b310_), [])), (6, (.ptr 6 0, [])), (8, (.ptr 8 0, []))], [(6, .cells [.sl (List.map GCell.c []), .sl (List.map cI.i64 [])] [(0, .app 110), (1, .app 3)]), (8, .cells [.slx, .slx] [(0, .ex 110 true (List.map GCell.c (e312_.gCells.set ((b310_).toNat) (GCell.mk c319_.gKind c319_.gName c319_.gNum b311_ c319_.gKids)))), (1, .ex 3 true (List.map cI.i64 e312_.gTrail))])], []⟩ _ (by kernel_rfl) (.cons (ix_obl (c := GCell.c) GCell.c_len h332) (.cons (mod_obl (off := 3) (new := [.int .i64 b311_]) (c := GCell.c) (GCell.c_eq c319_) (GCell.c_eq (GCell.mk c319_.gKind c319_.gName c319_.gNum b311_ c319_.gKids)) (at'_spec h332).2 rfl) (.cons (st_obl (sz := 5) (off := 3) (s := 1) (c := GCell.c) (GCell.c_eq c319_) (at'_spec h332).2 rfl (Nat.le_of_ble_eq_true rfl)) .nil))) ?_
              refine Wc.seq ?_
              obtain ⟨h333, h⟩ := oguard h
              refine Wc.region [{}, { md := 1 }, {}, { c := some (List.map cI.i64 [b310_]) }, { c := some (List.map cI.i64 (e312_.gTrail ++ [b310_])), tk := [59], md := 2 }, {}, { tk := [62] }] [] [6, 8] [6, 8] [] ⟨[(6, (.ptr 6 0, [])), (8, (.ptr 8 0, []))], [(6, .cells [.sl (List.map GCell.c []), .sl (List.map cI.i64 [])] [(0, .app 110), (1, .app 3)]), (8, .cells [.slx, .slx] [(0, .ex 110 true (List.map GCell.c (e312_.gCells.set ((b310_).toNat) (GCell.mk c319_.gKind c319_.gName c319_.gNum b311_ c319_.gKids)))), (1, .ex 3 true (List.map cI.i64 (e312_.gTrail ++ [b310_])))])], []⟩ _ (by kernel_rfl) (.cons (cl_cons (c := cI.i64) (x := b310_) rfl (cl_nil cI.i64)) (.cons (app_re2 cI.i64 e312_.gTrail [b310_]) (.cons (app_scal (c := cI.i64) (ys := [b310_]) cI.i64_scal) (.cons (app_obl2 (c := cI.i64) (xs := e312_.gTrail) (ys := [b310_]) cI.i64_len h333) .nil)))) ?_
              refine Wc.seq ?_
              refine Wc.region [{ md := 1 }, { tk := [64] }] [] [6, 7] [6] [] ⟨[(6, (.ptr 6 0, [])), (7, (.v (.bool true), []))], [(6, .cells [.slx, .slx] [(0, .ex 110 true (List.map GCell.c (e312_.gCells.set ((b310_).toNat) (GCell.mk c319_.gKind c319_.gName c319_.gNum b311_ c319_.gKids)))), (1, .ex 3 true (List.map cI.i64 (e312_.gTrail ++ [b310_])))])], []⟩ _ (by kernel_rfl) .nil ?_
              refine Wc.ret ?_
              obtain rfl := Option.some.inj h
              exact ⟨.inl rfl, by kernel_rfl, by kernel_rfl⟩

/-- laws.FnExactBindCell -/
def plaws_FnExactBindCell (k : Nat) (e291_ : GHeap) (b292_ : Int) (b293_ : Int) : Option Bool :=
  (plaws_szHeap k e291_ 1048576).bind fun b294_ =>
  if (decide (b294_ < 0)) = true then
    some true
  else
    (plaws_toHeap k e291_).bind fun e295_ =>
    (pspec_BindCell k e295_ b292_ b293_).bind fun n296_ =>
    (plaws_toHeap_d k e291_).bind fun e297_ =>
    (pimpl_BindCell_d k e297_ b292_ b293_).bind fun n298_ =>
    (plaws_eqHeap k (GHeap.mk n298_.1.gCells n298_.1.gTrail) (GHeap.mk n296_.1.gCells n296_.1.gTrail)).bind fun g299_ =>
    if (!g299_) = true then
      some false
    else
      if (!(n298_.2 == n296_.2)) = true then
        some false
      else
        (plaws_toHeap k e291_).bind fun e300_ =>
        (plaws_eqHeap k e297_ e300_).bind fun g301_ =>
        if (!g301_) = true then
          some false
        else
          (plaws_markHeap k e297_ 1).bind fun s302_ =>
          if (decide (s302_.2 < 0)) = true then
            some false
          else
            (plaws_eqHeap k (GHeap.mk n298_.1.gCells n298_.1.gTrail) (GHeap.mk n296_.1.gCells n296_.1.gTrail)).bind fun g303_ =>
            if (!g303_) = true then
              some false
            else
              if (!(n298_.2 == n296_.2)) = true then
                some false
              else
                (plaws_markHeap k (GHeap.mk n298_.1.gCells n298_.1.gTrail) 1).bind fun s304_ =>
                (plaws_heldHeap k (GHeap.mk s304_.1.gCells s304_.1.gTrail) 1).bind fun b305_ =>
                if (decide (b305_ < 0)) = true then
                  some false
                else
                  if (b305_ != s304_.2) = true then
                    some false
                  else
                    (plaws_toHeap k e291_).bind fun e306_ =>
                    (pimpl_BindCell k e306_ b292_ b293_).bind fun n307_ =>
                    (plaws_eqHeap k (GHeap.mk n307_.1.gCells n307_.1.gTrail) (GHeap.mk n296_.1.gCells n296_.1.gTrail)).bind fun g308_ =>
                    if (!g308_) = true then
                      some false
                    else
                      if (!(n307_.2 == n296_.2)) = true then
                        some false
                      else
                        (plaws_heldHeap k (GHeap.mk s304_.1.gCells s304_.1.gTrail) 1).bind fun b309_ =>
                        if (decide (b309_ < 0)) = true then
                          some false
                        else
                          if (b309_ != s304_.2) = true then
                            some false
                          else
                            some true
set_option maxHeartbeats 4000000 in
theorem claws_FnExactBindCell {k : Nat} {e291_ : GHeap} {b292_ : Int} {b293_ : Int} {r : Bool} (h : plaws_FnExactBindCell k e291_ b292_ b293_ = some r) : FnO Try.prog 7 [.v (.agg [.sl (List.map GCell.c e291_.gCells), .sl (List.map cI.i64 e291_.gTrail)]) [], .v (.int .i64 b292_) [], .v (.int .i64 b293_) []] (.v (.bool r) []) [] := by
  refine FnO.of Try.func7 (rfl : Try.f7.body = some _) (Nat.le_of_ble_eq_true (by kernel_rfl)) (Nat.le_of_ble_eq_true (by kernel_rfl)) ?_
  intro w0 X0 Fin pv0 pb
  unfold plaws_FnExactBindCell at h
  refine Wc.seq ?_
  refine Wc.region [] [] [1, 2, 3] [3] [] ⟨[(1, (.v (.int .i64 b292_), [])), (2, (.v (.int .i64 b293_), [])), (3, (.ptr 3 0, []))], [(3, .cells [.sl (List.map GCell.c e291_.gCells), .sl (List.map cI.i64 e291_.gTrail)] [])], []⟩ _ (by kernel_rfl) .nil ?_
  refine Wc.seq ?_
  refine Wc.region [] [] [1, 2, 3, 7] [3] [] ⟨[(1, (.v (.int .i64 b292_), [])), (2, (.v (.int .i64 b293_), [])), (3, (.ptr 3 0, [])), (7, (.v (.int .i64 1048576), []))], [(3, .cells [.sl (List.map GCell.c e291_.gCells), .sl (List.map cI.i64 e291_.gTrail)] [])], []⟩ _ (by kernel_rfl) .nil ?_
  refine Wc.seq ?_
  obtain ⟨b294_, h299, h⟩ := obind h
  refine Wc.region [{}, {}, { r := some (.v (.int .i64 b294_) []) }] [] [1, 2, 3, 7] [3] [] ⟨[(1, (.v (.int .i64 b292_), [])), (2, (.v (.int .i64 b293_), [])), (3, (.ptr 3 0, [])), (7, (.v (.int .i64 b294_), []))], [(3, .cells [.sl (List.map GCell.c e291_.gCells), .sl (List.map cI.i64 e291_.gTrail)] [])], []⟩ _ (by kernel_rfl) (.cons (claws_szHeap h299) .nil) ?_
  refine Wc.seq ?_
  refine Wc.seq ?_
  refine Wc.region [] [] [1, 2, 3, 22] [3] [] ⟨[(1, (.v (.int .i64 b292_), [])), (2, (.v (.int .i64 b293_), [])), (3, (.ptr 3 0, [])), (22, (.v (.bool (decide (b294_ < 0))), []))], [(3, .cells [.sl (List.map GCell.c e291_.gCells), .sl (List.map cI.i64 e291_.gTrail)] [])], []⟩ _ (by kernel_rfl) .nil ?_
  rcases oif h with ⟨h300, h⟩ | ⟨h300, h⟩
  · refine Wc.condT h300 (by kernel_rfl) ?_
    refine Wc.seq ?_
    refine Wc.region [] [] [6] [] [] ⟨[(6, (.v (.bool true), []))], [], []⟩ _ (by kernel_rfl) .nil ?_
    refine Wc.ret ?_
    obtain rfl := Option.some.inj h
    exact ⟨.inl rfl, by kernel_rfl, by kernel_rfl⟩
  · refine Wc.condF h300 (by kernel_rfl) ?_
    refine Wc.fix (st' := ⟨[(1, (.v (.int .i64 b292_), [])), (2, (.v (.int .i64 b293_), [])), (3, (.ptr 3 0, []))], [(3, .cells [.sl (List.map GCell.c e291_.gCells), .sl (List.map cI.i64 e291_.gTrail)] [])], []⟩) [] [1, 2, 3] [3] [] (by kernel_rfl) ?_
    refine Wc.skip ?_
    refine Wc.seq ?_
    obtain ⟨e295_, h301, h⟩ := obind h
    obtain ⟨n296_, h302, h⟩ := obind h
    refine Wc.region [{}, { r := some (.v (.agg [.sl (List.map GCell.c e295_.gCells), .sl (List.map cI.i64 e295_.gTrail)]) []) }, {}, {}, { r := some (.v (.tup [.agg [.sl (List.map GCell.c n296_.1.gCells), .sl (List.map cI.i64 n296_.1.gTrail)], .bool n296_.2]) [(0, .app 110), (1, .app 3)]) }, { tk := [28] }, { tk := [23] }, {}, {}, { tk := [29] }] [] [1, 2, 3, 8, 9] [3, 8] [] ⟨[(1, (.v (.int .i64 b292_), [])), (2, (.v (.int .i64 b293_), [])), (3, (.ptr 3 0, [])), (8, (.ptr 8 0, [])), (9, (.v (.bool n296_.2), []))], [(3, .cells [.sl (List.map GCell.c e291_.gCells), .sl (List.map cI.i64 e291_.gTrail)] []), (8, .cells [.sl (List.map GCell.c n296_.1.gCells), .sl (List.map cI.i64 n296_.1.gTrail)] [(0, .app 110), (1, .app 3)])], []⟩ _ (by kernel_rfl) (.cons (claws_toHeap h301) (.cons (cspec_BindCell h302) .nil)) ?_
    refine Wc.seq ?_
    obtain ⟨e297_, h303, h⟩ := obind h
    refine Wc.region [{}, { r := some (.v (.agg [.slx, .slx]) [(0, .ex 110 true (List.map GCell.c e297_.gCells)), (1, .ex 3 true (List.map cI.i64 e297_.gTrail))]) }, {}, { tk := [32] }] [] [1, 2, 3, 8, 9, 10] [3, 8, 10] [] ⟨[(1, (.v (.int .i64 b292_), [])), (2, (.v (.int .i64 b293_), [])), (3, (.ptr 3 0, [])), (8, (.ptr 8 0, [])), (9, (.v (.bool n296_.2), [])), (10, (.ptr 10 0, []))], [(3, .cells [.sl (List.map GCell.c e291_.gCells), .sl (List.map cI.i64 e291_.gTrail)] []), (8, .cells [.sl (List.map GCell.c n296_.1.gCells), .sl (List.map cI.i64 n296_.1.gTrail)] [(0, .app 110), (1, .app 3)]), (10, .cells [.slx, .slx] [(0, .ex 110 true (List.map GCell.c e297_.gCells)), (1, .ex 3 true (List.map cI.i64 e297_.gTrail))])], []⟩ _ (by kernel_rfl) (.cons (claws_toHeap_d h303) .nil) ?_
    refine Wc.seq ?_
    obtain ⟨n298_, h304, h⟩ := obind h
    refine Wc.region [{}, {}, {}, { r := some (.v (.tup [.agg [.slx, .slx], .bool n298_.2]) [(0, .ex 110 true (List.map GCell.c n298_.1.gCells)), (1, .ex 3 true (List.map cI.i64 n298_.1.gTrail))]) }, { tk := [37] }, { tk := [33] }, {}, {}, { tk := [38] }] [] [1, 2, 3, 8, 9, 10, 11, 12] [3, 8, 10, 11] [] ⟨[(1, (.v (.int .i64 b292_), [])), (2, (.v (.int .i64 b293_), [])), (3, (.ptr 3 0, [])), (8, (.ptr 8 0, [])), (9, (.v (.bool n296_.2), [])), (10, (.ptr 10 0, [])), (11, (.ptr 11 0, [])), (12, (.v (.bool n298_.2), []))], [(3, .cells [.sl (List.map GCell.c e291_.gCells), .sl (List.map cI.i64 e291_.gTrail)] []), (8, .cells [.sl (List.map GCell.c n296_.1.gCells), .sl (List.map cI.i64 n296_.1.gTrail)] [(0, .app 110), (1, .app 3)]), (10, .cells [.slx, .slx] [(0, .ex 110 true (List.map GCell.c e297_.gCells)), (1, .ex 3 true (List.map cI.i64 e297_.gTrail))]), (11, .cells [.slx, .slx] [(0, .ex 110 true (List.map GCell.c n298_.1.gCells)), (1, .ex 3 true (List.map cI.i64 n298_.1.gTrail))])], []⟩ _ (by kernel_rfl) (.cons (cimpl_BindCell_d h304) .nil) ?_
    refine Wc.seq ?_
    refine Wc.seq ?_
    obtain ⟨g299_, h305, h⟩ := obind h
    rcases oif h with ⟨h306, h⟩ | ⟨h306, h⟩
    · refine Wc.region [{}, {}, { r := some (.v (.bool g299_) []) }, {}, { re := some (.bool true) }] [] [1, 2, 3, 8, 9, 10, 11, 12, 48] [3, 8, 10, 11] [] ⟨[(1, (.v (.int .i64 b292_), [])), (2, (.v (.int .i64 b293_), [])), (3, (.ptr 3 0, [])), (8, (.ptr 8 0, [])), (9, (.v (.bool n296_.2), [])), (10, (.ptr 10 0, [])), (11, (.ptr 11 0, [])), (12, (.v (.bool n298_.2), [])), (48, (.v (.bool true), []))], [(3, .cells [.sl (List.map GCell.c e291_.gCells), .sl (List.map cI.i64 e291_.gTrail)] []), (8, .cells [.sl (List.map GCell.c n296_.1.gCells), .sl (List.map cI.i64 n296_.1.gTrail)] [(0, .app 110), (1, .app 3)]), (10, .cells [.slx, .slx] [(0, .ex 110 true (List.map GCell.c e297_.gCells)), (1, .ex 3 true (List.map cI.i64 e297_.gTrail))]), (11, .cells [.slx, .slx] [(0, .ex 110 true (List.map GCell.c n298_.1.gCells)), (1, .ex 3 true (List.map cI.i64 n298_.1.gTrail))])], []⟩ _ (by kernel_rfl) (.cons (claws_eqHeap h305) (.cons (congrArg AV.bool h306) .nil)) ?_
      refine Wc.condT rfl (by kernel_rfl) ?_
      refine Wc.seq ?_
      refine Wc.region [] [] [6] [] [] ⟨[(6, (.v (.bool false), []))], [], []⟩ _ (by kernel_rfl) .nil ?_
      refine Wc.ret ?_
      obtain rfl := Option.some.inj h
      exact ⟨.inl rfl, by kernel_rfl, by kernel_rfl⟩
    · refine Wc.region [{}, {}, { r := some (.v (.bool g299_) []) }, {}, { re := some (.bool false) }] [] [1, 2, 3, 8, 9, 10, 11, 12, 48] [3, 8, 10, 11] [] ⟨[(1, (.v (.int .i64 b292_), [])), (2, (.v (.int .i64 b293_), [])), (3, (.ptr 3 0, [])), (8, (.ptr 8 0, [])), (9, (.v (.bool n296_.2), [])), (10, (.ptr 10 0, [])), (11, (.ptr 11 0, [])), (12, (.v (.bool n298_.2), [])), (48, (.v (.bool (!(n298_.2 == n296_.2))), []))], [(3, .cells [.sl (List.map GCell.c e291_.gCells), .sl (List.map cI.i64 e291_.gTrail)] []), (8, .cells [.sl (List.map GCell.c n296_.1.gCells), .sl (List.map cI.i64 n296_.1.gTrail)] [(0, .app 110), (1, .app 3)]), (10, .cells [.slx, .slx] [(0, .ex 110 true (List.map GCell.c e297_.gCells)), (1, .ex 3 true (List.map cI.i64 e297_.gTrail))]), (11, .cells [.slx, .slx] [(0, .ex 110 true (List.map GCell.c n298_.1.gCells)), (1, .ex 3 true (List.map cI.i64 n298_.1.gTrail))])], []⟩ _ (by kernel_rfl) (.cons (claws_eqHeap h305) (.cons (congrArg AV.bool h306) .nil)) ?_
      rcases oif h with ⟨h307, h⟩ | ⟨h307, h⟩
      · refine Wc.condT h307 (by kernel_rfl) ?_
        refine Wc.seq ?_
        refine Wc.region [] [] [6] [] [] ⟨[(6, (.v (.bool false), []))], [], []⟩ _ (by kernel_rfl) .nil ?_
        refine Wc.ret ?_
        obtain rfl := Option.some.inj h
        exact ⟨.inl rfl, by kernel_rfl, by kernel_rfl⟩
      · refine Wc.condF h307 (by kernel_rfl) ?_
        refine Wc.fix (st' := ⟨[(1, (.v (.int .i64 b292_), [])), (2, (.v (.int .i64 b293_), [])), (3, (.ptr 3 0, [])), (8, (.ptr 8 0, [])), (9, (.v (.bool n296_.2), [])), (10, (.ptr 10 0, [])), (11, (.ptr 11 0, [])), (12, (.v (.bool n298_.2), []))], [(3, .cells [.sl (List.map GCell.c e291_.gCells), .sl (List.map cI.i64 e291_.gTrail)] []), (8, .cells [.sl (List.map GCell.c n296_.1.gCells), .sl (List.map cI.i64 n296_.1.gTrail)] [(0, .app 110), (1, .app 3)]), (10, .cells [.slx, .slx] [(0, .ex 110 true (List.map GCell.c e297_.gCells)), (1, .ex 3 true (List.map cI.i64 e297_.gTrail))]), (11, .cells [.slx, .slx] [(0, .ex 110 true (List.map GCell.c n298_.1.gCells)), (1, .ex 3 true (List.map cI.i64 n298_.1.gTrail))])], []⟩) [] [1, 2, 3, 8, 9, 10, 11, 12] [3, 8, 10, 11] [] (by kernel_rfl) ?_
        refine Wc.skip ?_
        refine Wc.seq ?_
        refine Wc.seq ?_
        obtain ⟨e300_, h308, h⟩ := obind h
        obtain ⟨g301_, h309, h⟩ := obind h
        refine Wc.draw hmix [{}, {}, { r := some (.v (.agg [.sl (List.map GCell.c e300_.gCells), .sl (List.map cI.i64 e300_.gTrail)]) []) }, { r := some (.v (.bool g301_) []) }] [] [1, 2, 3, 8, 9, 10, 11, 12, 53] [3, 8, 10, 11] [] ⟨[(1, (.v (.int .i64 b292_), [])), (2, (.v (.int .i64 b293_), [])), (3, (.ptr 3 0, [])), (8, (.ptr 8 0, [])), (9, (.v (.bool n296_.2), [])), (10, (.ptr 10 0, [])), (11, (.ptr 11 0, [])), (12, (.v (.bool n298_.2), [])), (53, (.v (.bool (!g301_)), []))], [(3, .cells [.sl (List.map GCell.c e291_.gCells), .sl (List.map cI.i64 e291_.gTrail)] []), (8, .cells [.sl (List.map GCell.c n296_.1.gCells), .sl (List.map cI.i64 n296_.1.gTrail)] [(0, .app 110), (1, .app 3)]), (10, .cells [.slx, .slx] [(0, .ex 110 true (List.map GCell.c e297_.gCells)), (1, .ex 3 true (List.map cI.i64 e297_.gTrail))]), (11, .cells [.slx, .slx] [(0, .ex 110 true (List.map GCell.c n298_.1.gCells)), (1, .ex 3 true (List.map cI.i64 n298_.1.gTrail))])], []⟩ _ (by kernel_rfl) (fun X => by kernel_rfl) (.cons (claws_toHeap h308) (.cons (claws_eqHeap h309) .nil)) ?_
        rcases oif h with ⟨h310, h⟩ | ⟨h310, h⟩
        · refine Wc.condT h310 (by kernel_rfl) ?_
          refine Wc.seq ?_
          refine Wc.region [] [] [6] [] [] ⟨[(6, (.v (.bool false), []))], [], []⟩ _ (by kernel_rfl) .nil ?_
          refine Wc.ret ?_
          obtain rfl := Option.some.inj h
          exact ⟨.inl rfl, by kernel_rfl, by kernel_rfl⟩
        · refine Wc.condF h310 (by kernel_rfl) ?_
          refine Wc.fix (st' := ⟨[(1, (.v (.int .i64 b292_), [])), (2, (.v (.int .i64 b293_), [])), (3, (.ptr 3 0, [])), (8, (.ptr 8 0, [])), (9, (.v (.bool n296_.2), [])), (10, (.ptr 10 0, [])), (11, (.ptr 11 0, [])), (12, (.v (.bool n298_.2), []))], [(3, .cells [.sl (List.map GCell.c e291_.gCells), .sl (List.map cI.i64 e291_.gTrail)] []), (8, .cells [.sl (List.map GCell.c n296_.1.gCells), .sl (List.map cI.i64 n296_.1.gTrail)] [(0, .app 110), (1, .app 3)]), (10, .cells [.slx, .slx] [(0, .ex 110 true (List.map GCell.c e297_.gCells)), (1, .ex 3 true (List.map cI.i64 e297_.gTrail))]), (11, .cells [.slx, .slx] [(0, .ex 110 true (List.map GCell.c n298_.1.gCells)), (1, .ex 3 true (List.map cI.i64 n298_.1.gTrail))])], []⟩) [] [1, 2, 3, 8, 9, 10, 11, 12] [3, 8, 10, 11] [] (by kernel_rfl) ?_
          refine Wc.skip ?_
          refine Wc.seq ?_
          refine Wc.region [] [] [1, 2, 3, 8, 9, 10, 11, 12, 13] [3, 8, 10, 11] [] ⟨[(1, (.v (.int .i64 b292_), [])), (2, (.v (.int .i64 b293_), [])), (3, (.ptr 3 0, [])), (8, (.ptr 8 0, [])), (9, (.v (.bool n296_.2), [])), (10, (.ptr 10 0, [])), (11, (.ptr 11 0, [])), (12, (.v (.bool n298_.2), [])), (13, (.v (.int .i64 1), []))], [(3, .cells [.sl (List.map GCell.c e291_.gCells), .sl (List.map cI.i64 e291_.gTrail)] []), (8, .cells [.sl (List.map GCell.c n296_.1.gCells), .sl (List.map cI.i64 n296_.1.gTrail)] [(0, .app 110), (1, .app 3)]), (10, .cells [.slx, .slx] [(0, .ex 110 true (List.map GCell.c e297_.gCells)), (1, .ex 3 true (List.map cI.i64 e297_.gTrail))]), (11, .cells [.slx, .slx] [(0, .ex 110 true (List.map GCell.c n298_.1.gCells)), (1, .ex 3 true (List.map cI.i64 n298_.1.gTrail))])], []⟩ _ (by kernel_rfl) .nil ?_
          refine Wc.seq ?_
          obtain ⟨s302_, h311, h⟩ := obind h
          refine Wc.region [{}, {}, { io := [0], r := some (.v (.int .i64 s302_.2) []), outs := [(0, .v .undef [(0, .ex 1000000007 true (List.map GCell.c s302_.1.gCells)), (1, .ex 1000000007 true (List.map cI.i64 s302_.1.gTrail))])] }] [] [1, 2, 3, 8, 9, 11, 12, 13] [3, 8, 11] [] ⟨[(1, (.v (.int .i64 b292_), [])), (2, (.v (.int .i64 b293_), [])), (3, (.ptr 3 0, [])), (8, (.ptr 8 0, [])), (9, (.v (.bool n296_.2), [])), (11, (.ptr 11 0, [])), (12, (.v (.bool n298_.2), [])), (13, (.v (.int .i64 s302_.2), []))], [(3, .cells [.sl (List.map GCell.c e291_.gCells), .sl (List.map cI.i64 e291_.gTrail)] []), (8, .cells [.sl (List.map GCell.c n296_.1.gCells), .sl (List.map cI.i64 n296_.1.gTrail)] [(0, .app 110), (1, .app 3)]), (11, .cells [.slx, .slx] [(0, .ex 110 true (List.map GCell.c n298_.1.gCells)), (1, .ex 3 true (List.map cI.i64 n298_.1.gTrail))])], []⟩ _ (by kernel_rfl) (.cons (FnO.any (args := [.io (.agg [.slx, .slx]) [(0, .ex 110 true (List.map GCell.c e297_.gCells)), (1, .ex 3 true (List.map cI.i64 e297_.gTrail))], .v (.int .i64 1) []]) (claws_markHeap h311)) .nil) ?_
          refine Wc.seq ?_
          refine Wc.seq ?_
          rcases oif h with ⟨h312, h⟩ | ⟨h312, h⟩
          · refine Wc.region [{}, {}, { re := some (.bool true) }] [] [1, 2, 3, 8, 9, 11, 69] [3, 8, 11] [] ⟨[(1, (.v (.int .i64 b292_), [])), (2, (.v (.int .i64 b293_), [])), (3, (.ptr 3 0, [])), (8, (.ptr 8 0, [])), (9, (.v (.bool n296_.2), [])), (11, (.ptr 11 0, [])), (69, (.v (.bool true), []))], [(3, .cells [.sl (List.map GCell.c e291_.gCells), .sl (List.map cI.i64 e291_.gTrail)] []), (8, .cells [.sl (List.map GCell.c n296_.1.gCells), .sl (List.map cI.i64 n296_.1.gTrail)] [(0, .app 110), (1, .app 3)]), (11, .cells [.slx, .slx] [(0, .ex 110 true (List.map GCell.c n298_.1.gCells)), (1, .ex 3 true (List.map cI.i64 n298_.1.gTrail))])], []⟩ _ (by kernel_rfl) (.cons (congrArg AV.bool h312) .nil) ?_
            refine Wc.condT rfl (by kernel_rfl) ?_
            refine Wc.seq ?_
            refine Wc.region [] [] [6] [] [] ⟨[(6, (.v (.bool false), []))], [], []⟩ _ (by kernel_rfl) .nil ?_
            refine Wc.ret ?_
            obtain rfl := Option.some.inj h
            exact ⟨.inl rfl, by kernel_rfl, by kernel_rfl⟩
          · obtain ⟨g303_, h313, h⟩ := obind h
            rcases oif h with ⟨h314, h⟩ | ⟨h314, h⟩
            · refine Wc.region [{}, {}, { re := some (.bool false) }, {}, {}, { r := some (.v (.bool g303_) []) }, {}, {}, { re := some (.bool true) }] [] [1, 2, 3, 8, 9, 11, 69] [3, 8, 11] [] ⟨[(1, (.v (.int .i64 b292_), [])), (2, (.v (.int .i64 b293_), [])), (3, (.ptr 3 0, [])), (8, (.ptr 8 0, [])), (9, (.v (.bool n296_.2), [])), (11, (.ptr 11 0, [])), (69, (.v (.bool true), []))], [(3, .cells [.sl (List.map GCell.c e291_.gCells), .sl (List.map cI.i64 e291_.gTrail)] []), (8, .cells [.sl (List.map GCell.c n296_.1.gCells), .sl (List.map cI.i64 n296_.1.gTrail)] [(0, .app 110), (1, .app 3)]), (11, .cells [.slx, .slx] [(0, .ex 110 true (List.map GCell.c n298_.1.gCells)), (1, .ex 3 true (List.map cI.i64 n298_.1.gTrail))])], []⟩ _ (by kernel_rfl) (.cons (congrArg AV.bool h312) (.cons (claws_eqHeap h313) (.cons (congrArg AV.bool h314) .nil))) ?_
              refine Wc.condT rfl (by kernel_rfl) ?_
              refine Wc.seq ?_
              refine Wc.region [] [] [6] [] [] ⟨[(6, (.v (.bool false), []))], [], []⟩ _ (by kernel_rfl) .nil ?_
              refine Wc.ret ?_
              obtain rfl := Option.some.inj h
              exact ⟨.inl rfl, by kernel_rfl, by kernel_rfl⟩
            · refine Wc.region [{}, {}, { re := some (.bool false) }, {}, {}, { r := some (.v (.bool g303_) []) }, {}, {}, { re := some (.bool false) }] [] [1, 2, 3, 8, 9, 11, 69] [3, 8, 11] [] ⟨[(1, (.v (.int .i64 b292_), [])), (2, (.v (.int .i64 b293_), [])), (3, (.ptr 3 0, [])), (8, (.ptr 8 0, [])), (9, (.v (.bool n296_.2), [])), (11, (.ptr 11 0, [])), (69, (.v (.bool (!(n298_.2 == n296_.2))), []))], [(3, .cells [.sl (List.map GCell.c e291_.gCells), .sl (List.map cI.i64 e291_.gTrail)] []), (8, .cells [.sl (List.map GCell.c n296_.1.gCells), .sl (List.map cI.i64 n296_.1.gTrail)] [(0, .app 110), (1, .app 3)]), (11, .cells [.slx, .slx] [(0, .ex 110 true (List.map GCell.c n298_.1.gCells)), (1, .ex 3 true (List.map cI.i64 n298_.1.gTrail))])], []⟩ _ (by kernel_rfl) (.cons (congrArg AV.bool h312) (.cons (claws_eqHeap h313) (.cons (congrArg AV.bool h314) .nil))) ?_
              rcases oif h with ⟨h315, h⟩ | ⟨h315, h⟩
              · refine Wc.condT h315 (by kernel_rfl) ?_
                refine Wc.seq ?_
                refine Wc.region [] [] [6] [] [] ⟨[(6, (.v (.bool false), []))], [], []⟩ _ (by kernel_rfl) .nil ?_
                refine Wc.ret ?_
                obtain rfl := Option.some.inj h
                exact ⟨.inl rfl, by kernel_rfl, by kernel_rfl⟩
              · refine Wc.condF h315 (by kernel_rfl) ?_
                refine Wc.fix (st' := ⟨[(1, (.v (.int .i64 b292_), [])), (2, (.v (.int .i64 b293_), [])), (3, (.ptr 3 0, [])), (8, (.ptr 8 0, [])), (9, (.v (.bool n296_.2), [])), (11, (.ptr 11 0, []))], [(3, .cells [.sl (List.map GCell.c e291_.gCells), .sl (List.map cI.i64 e291_.gTrail)] []), (8, .cells [.sl (List.map GCell.c n296_.1.gCells), .sl (List.map cI.i64 n296_.1.gTrail)] [(0, .app 110), (1, .app 3)]), (11, .cells [.slx, .slx] [(0, .ex 110 true (List.map GCell.c n298_.1.gCells)), (1, .ex 3 true (List.map cI.i64 n298_.1.gTrail))])], []⟩) [] [1, 2, 3, 8, 9, 11] [3, 8, 11] [] (by kernel_rfl) ?_
                refine Wc.skip ?_
                refine Wc.seq ?_
                refine Wc.region [] [] [1, 2, 3, 8, 9, 11, 14] [3, 8, 11] [] ⟨[(1, (.v (.int .i64 b292_), [])), (2, (.v (.int .i64 b293_), [])), (3, (.ptr 3 0, [])), (8, (.ptr 8 0, [])), (9, (.v (.bool n296_.2), [])), (11, (.ptr 11 0, [])), (14, (.v (.int .i64 1), []))], [(3, .cells [.sl (List.map GCell.c e291_.gCells), .sl (List.map cI.i64 e291_.gTrail)] []), (8, .cells [.sl (List.map GCell.c n296_.1.gCells), .sl (List.map cI.i64 n296_.1.gTrail)] [(0, .app 110), (1, .app 3)]), (11, .cells [.slx, .slx] [(0, .ex 110 true (List.map GCell.c n298_.1.gCells)), (1, .ex 3 true (List.map cI.i64 n298_.1.gTrail))])], []⟩ _ (by kernel_rfl) .nil ?_
                refine Wc.seq ?_
                obtain ⟨s304_, h316, h⟩ := obind h
                refine Wc.region [{}, {}, { io := [0], r := some (.v (.int .i64 s304_.2) []), outs := [(0, .v .undef [(0, .ex 1000000007 true (List.map GCell.c s304_.1.gCells)), (1, .ex 1000000007 true (List.map cI.i64 s304_.1.gTrail))])] }] [] [1, 2, 3, 8, 9, 11, 14] [3, 8, 11] [] ⟨[(1, (.v (.int .i64 b292_), [])), (2, (.v (.int .i64 b293_), [])), (3, (.ptr 3 0, [])), (8, (.ptr 8 0, [])), (9, (.v (.bool n296_.2), [])), (11, (.ptr 11 0, [])), (14, (.v (.int .i64 s304_.2), []))], [(3, .cells [.sl (List.map GCell.c e291_.gCells), .sl (List.map cI.i64 e291_.gTrail)] []), (8, .cells [.sl (List.map GCell.c n296_.1.gCells), .sl (List.map cI.i64 n296_.1.gTrail)] [(0, .app 110), (1, .app 3)]), (11, .cells [.slx, .slx] [(0, .ex 1000000007 true (List.map GCell.c s304_.1.gCells)), (1, .ex 1000000007 true (List.map cI.i64 s304_.1.gTrail))])], []⟩ _ (by kernel_rfl) (.cons (FnO.any (args := [.io (.agg [.slx, .slx]) [(0, .ex 110 true (List.map GCell.c n298_.1.gCells)), (1, .ex 3 true (List.map cI.i64 n298_.1.gTrail))], .v (.int .i64 1) []]) (claws_markHeap h316)) .nil) ?_
                refine Wc.seq ?_
                refine Wc.region [] [] [1, 2, 3, 8, 9, 11, 14, 15] [3, 8, 11] [] ⟨[(1, (.v (.int .i64 b292_), [])), (2, (.v (.int .i64 b293_), [])), (3, (.ptr 3 0, [])), (8, (.ptr 8 0, [])), (9, (.v (.bool n296_.2), [])), (11, (.ptr 11 0, [])), (14, (.v (.int .i64 s304_.2), [])), (15, (.v (.int .i64 1), []))], [(3, .cells [.sl (List.map GCell.c e291_.gCells), .sl (List.map cI.i64 e291_.gTrail)] []), (8, .cells [.sl (List.map GCell.c n296_.1.gCells), .sl (List.map cI.i64 n296_.1.gTrail)] [(0, .app 110), (1, .app 3)]), (11, .cells [.slx, .slx] [(0, .ex 1000000007 true (List.map GCell.c s304_.1.gCells)), (1, .ex 1000000007 true (List.map cI.i64 s304_.1.gTrail))])], []⟩ _ (by kernel_rfl) .nil ?_
                refine Wc.seq ?_
                obtain ⟨b305_, h317, h⟩ := obind h
                refine Wc.region [{}, {}, { r := some (.v (.int .i64 b305_) []) }] [] [1, 2, 3, 8, 9, 11, 14, 15] [3, 8, 11] [] ⟨[(1, (.v (.int .i64 b292_), [])), (2, (.v (.int .i64 b293_), [])), (3, (.ptr 3 0, [])), (8, (.ptr 8 0, [])), (9, (.v (.bool n296_.2), [])), (11, (.ptr 11 0, [])), (14, (.v (.int .i64 s304_.2), [])), (15, (.v (.int .i64 b305_), []))], [(3, .cells [.sl (List.map GCell.c e291_.gCells), .sl (List.map cI.i64 e291_.gTrail)] []), (8, .cells [.sl (List.map GCell.c n296_.1.gCells), .sl (List.map cI.i64 n296_.1.gTrail)] [(0, .app 110), (1, .app 3)]), (11, .cells [.slx, .slx] [(0, .ex 1000000007 true (List.map GCell.c s304_.1.gCells)), (1, .ex 1000000007 true (List.map cI.i64 s304_.1.gTrail))])], []⟩ _ (by kernel_rfl) (.cons (claws_heldHeap h317) .nil) ?_
                refine Wc.seq ?_
                refine Wc.seq ?_
                refine Wc.region [] [] [1, 2, 3, 8, 9, 11, 14, 15, 77] [3, 8, 11] [] ⟨[(1, (.v (.int .i64 b292_), [])), (2, (.v (.int .i64 b293_), [])), (3, (.ptr 3 0, [])), (8, (.ptr 8 0, [])), (9, (.v (.bool n296_.2), [])), (11, (.ptr 11 0, [])), (14, (.v (.int .i64 s304_.2), [])), (15, (.v (.int .i64 b305_), [])), (77, (.v (.bool (decide (b305_ < 0))), []))], [(3, .cells [.sl (List.map GCell.c e291_.gCells), .sl (List.map cI.i64 e291_.gTrail)] []), (8, .cells [.sl (List.map GCell.c n296_.1.gCells), .sl (List.map cI.i64 n296_.1.gTrail)] [(0, .app 110), (1, .app 3)]), (11, .cells [.slx, .slx] [(0, .ex 1000000007 true (List.map GCell.c s304_.1.gCells)), (1, .ex 1000000007 true (List.map cI.i64 s304_.1.gTrail))])], []⟩ _ (by kernel_rfl) .nil ?_
                rcases oif h with ⟨h318, h⟩ | ⟨h318, h⟩
                · refine Wc.condT h318 (by kernel_rfl) ?_
                  refine Wc.seq ?_
                  refine Wc.region [] [] [6] [] [] ⟨[(6, (.v (.bool false), []))], [], []⟩ _ (by kernel_rfl) .nil ?_
                  refine Wc.ret ?_
                  obtain rfl := Option.some.inj h
                  exact ⟨.inl rfl, by kernel_rfl, by kernel_rfl⟩
                · refine Wc.condF h318 (by kernel_rfl) ?_
                  refine Wc.fix (st' := ⟨[(1, (.v (.int .i64 b292_), [])), (2, (.v (.int .i64 b293_), [])), (3, (.ptr 3 0, [])), (8, (.ptr 8 0, [])), (9, (.v (.bool n296_.2), [])), (11, (.ptr 11 0, [])), (14, (.v (.int .i64 s304_.2), [])), (15, (.v (.int .i64 b305_), []))], [(3, .cells [.sl (List.map GCell.c e291_.gCells), .sl (List.map cI.i64 e291_.gTrail)] []), (8, .cells [.sl (List.map GCell.c n296_.1.gCells), .sl (List.map cI.i64 n296_.1.gTrail)] [(0, .app 110), (1, .app 3)]), (11, .cells [.slx, .slx] [(0, .ex 1000000007 true (List.map GCell.c s304_.1.gCells)), (1, .ex 1000000007 true (List.map cI.i64 s304_.1.gTrail))])], []⟩) [] [1, 2, 3, 8, 9, 11, 14, 15] [3, 8, 11] [] (by kernel_rfl) ?_
                  refine Wc.skip ?_
                  refine Wc.seq ?_
                  refine Wc.seq ?_
                  refine Wc.region [] [] [1, 2, 3, 8, 9, 11, 14, 80] [3, 8, 11] [] ⟨[(1, (.v (.int .i64 b292_), [])), (2, (.v (.int .i64 b293_), [])), (3, (.ptr 3 0, [])), (8, (.ptr 8 0, [])), (9, (.v (.bool n296_.2), [])), (11, (.ptr 11 0, [])), (14, (.v (.int .i64 s304_.2), [])), (80, (.v (.bool (b305_ != s304_.2)), []))], [(3, .cells [.sl (List.map GCell.c e291_.gCells), .sl (List.map cI.i64 e291_.gTrail)] []), (8, .cells [.sl (List.map GCell.c n296_.1.gCells), .sl (List.map cI.i64 n296_.1.gTrail)] [(0, .app 110), (1, .app 3)]), (11, .cells [.slx, .slx] [(0, .ex 1000000007 true (List.map GCell.c s304_.1.gCells)), (1, .ex 1000000007 true (List.map cI.i64 s304_.1.gTrail))])], []⟩ _ (by kernel_rfl) .nil ?_
                  rcases oif h with ⟨h319, h⟩ | ⟨h319, h⟩
                  · refine Wc.condT h319 (by kernel_rfl) ?_
                    refine Wc.seq ?_
                    refine Wc.region [] [] [6] [] [] ⟨[(6, (.v (.bool false), []))], [], []⟩ _ (by kernel_rfl) .nil ?_
                    refine Wc.ret ?_
                    obtain rfl := Option.some.inj h
                    exact ⟨.inl rfl, by kernel_rfl, by kernel_rfl⟩
                  · refine Wc.condF h319 (by kernel_rfl) ?_
                    refine Wc.fix (st' := ⟨[(1, (.v (.int .i64 b292_), [])), (2, (.v (.int .i64 b293_), [])), (3, (.ptr 3 0, [])), (8, (.ptr 8 0, [])), (9, (.v (.bool n296_.2), [])), (11, (.ptr 11 0, [])), (14, (.v (.int .i64 s304_.2), []))], [(3, .cells [.sl (List.map GCell.c e291_.gCells), .sl (List.map cI.i64 e291_.gTrail)] []), (8, .cells [.sl (List.map GCell.c n296_.1.gCells), .sl (List.map cI.i64 n296_.1.gTrail)] [(0, .app 110), (1, .app 3)]), (11, .cells [.slx, .slx] [(0, .ex 1000000007 true (List.map GCell.c s304_.1.gCells)), (1, .ex 1000000007 true (List.map cI.i64 s304_.1.gTrail))])], []⟩) [] [1, 2, 3, 8, 9, 11, 14] [3, 8, 11] [] (by kernel_rfl) ?_
                    refine Wc.skip ?_
                    refine Wc.seq ?_
                    obtain ⟨e306_, h320, h⟩ := obind h
                    obtain ⟨n307_, h321, h⟩ := obind h
                    refine Wc.region [{}, { r := some (.v (.agg [.sl (List.map GCell.c e306_.gCells), .sl (List.map cI.i64 e306_.gTrail)]) []) }, {}, {}, { r := some (.v (.tup [.agg [.sl (List.map GCell.c n307_.1.gCells), .sl (List.map cI.i64 n307_.1.gTrail)], .bool n307_.2]) []) }] [] [8, 9, 11, 14, 16, 17] [8, 11, 16] [] ⟨[(8, (.ptr 8 0, [])), (9, (.v (.bool n296_.2), [])), (11, (.ptr 11 0, [])), (14, (.v (.int .i64 s304_.2), [])), (16, (.ptr 16 0, [])), (17, (.v (.bool n307_.2), []))], [(8, .cells [.sl (List.map GCell.c n296_.1.gCells), .sl (List.map cI.i64 n296_.1.gTrail)] [(0, .app 110), (1, .app 3)]), (11, .cells [.slx, .slx] [(0, .ex 1000000007 true (List.map GCell.c s304_.1.gCells)), (1, .ex 1000000007 true (List.map cI.i64 s304_.1.gTrail))]), (16, .cells [.sl (List.map GCell.c n307_.1.gCells), .sl (List.map cI.i64 n307_.1.gTrail)] [])], []⟩ _ (by kernel_rfl) (.cons (claws_toHeap h320) (.cons (cimpl_BindCell h321) .nil)) ?_
                    refine Wc.seq ?_
                    refine Wc.seq ?_
                    obtain ⟨g308_, h322, h⟩ := obind h
                    rcases oif h with ⟨h323, h⟩ | ⟨h323, h⟩
                    · refine Wc.region [{}, {}, { r := some (.v (.bool g308_) []) }, {}, { re := some (.bool true) }] [] [11, 14, 97] [11] [] ⟨[(11, (.ptr 11 0, [])), (14, (.v (.int .i64 s304_.2), [])), (97, (.v (.bool true), []))], [(11, .cells [.slx, .slx] [(0, .ex 1000000007 true (List.map GCell.c s304_.1.gCells)), (1, .ex 1000000007 true (List.map cI.i64 s304_.1.gTrail))])], []⟩ _ (by kernel_rfl) (.cons (claws_eqHeap h322) (.cons (congrArg AV.bool h323) .nil)) ?_
                      refine Wc.condT rfl (by kernel_rfl) ?_
                      refine Wc.seq ?_
                      refine Wc.region [] [] [6] [] [] ⟨[(6, (.v (.bool false), []))], [], []⟩ _ (by kernel_rfl) .nil ?_
                      refine Wc.ret ?_
                      obtain rfl := Option.some.inj h
                      exact ⟨.inl rfl, by kernel_rfl, by kernel_rfl⟩
                    · refine Wc.region [{}, {}, { r := some (.v (.bool g308_) []) }, {}, { re := some (.bool false) }] [] [11, 14, 97] [11] [] ⟨[(11, (.ptr 11 0, [])), (14, (.v (.int .i64 s304_.2), [])), (97, (.v (.bool (!(n307_.2 == n296_.2))), []))], [(11, .cells [.slx, .slx] [(0, .ex 1000000007 true (List.map GCell.c s304_.1.gCells)), (1, .ex 1000000007 true (List.map cI.i64 s304_.1.gTrail))])], []⟩ _ (by kernel_rfl) (.cons (claws_eqHeap h322) (.cons (congrArg AV.bool h323) .nil)) ?_
                      rcases oif h with ⟨h324, h⟩ | ⟨h324, h⟩
                      · refine Wc.condT h324 (by kernel_rfl) ?_
                        refine Wc.seq ?_
                        refine Wc.region [] [] [6] [] [] ⟨[(6, (.v (.bool false), []))], [], []⟩ _ (by kernel_rfl) .nil ?_
                        refine Wc.ret ?_
                        obtain rfl := Option.some.inj h
                        exact ⟨.inl rfl, by kernel_rfl, by kernel_rfl⟩
                      · refine Wc.condF h324 (by kernel_rfl) ?_
                        refine Wc.fix (st' := ⟨[(11, (.ptr 11 0, [])), (14, (.v (.int .i64 s304_.2), []))], [(11, .cells [.slx, .slx] [(0, .ex 1000000007 true (List.map GCell.c s304_.1.gCells)), (1, .ex 1000000007 true (List.map cI.i64 s304_.1.gTrail))])], []⟩) [] [11, 14] [11] [] (by kernel_rfl) ?_
                        refine Wc.skip ?_
                        refine Wc.seq ?_
                        refine Wc.region [] [] [11, 14, 15] [11] [] ⟨[(11, (.ptr 11 0, [])), (14, (.v (.int .i64 s304_.2), [])), (15, (.v (.int .i64 1), []))], [(11, .cells [.slx, .slx] [(0, .ex 1000000007 true (List.map GCell.c s304_.1.gCells)), (1, .ex 1000000007 true (List.map cI.i64 s304_.1.gTrail))])], []⟩ _ (by kernel_rfl) .nil ?_
                        refine Wc.seq ?_
                        obtain ⟨b309_, h325, h⟩ := obind h
                        refine Wc.region [{}, {}, { r := some (.v (.int .i64 b309_) []) }] [] [14, 15] [] [] ⟨[(14, (.v (.int .i64 s304_.2), [])), (15, (.v (.int .i64 b309_), []))], [], []⟩ _ (by kernel_rfl) (.cons (claws_heldHeap h325) .nil) ?_
                        refine Wc.seq ?_
                        refine Wc.seq ?_
                        refine Wc.region [] [] [14, 15, 102] [] [] ⟨[(14, (.v (.int .i64 s304_.2), [])), (15, (.v (.int .i64 b309_), [])), (102, (.v (.bool (decide (b309_ < 0))), []))], [], []⟩ _ (by kernel_rfl) .nil ?_
                        rcases oif h with ⟨h326, h⟩ | ⟨h326, h⟩
                        · refine Wc.condT h326 (by kernel_rfl) ?_
                          refine Wc.seq ?_
                          refine Wc.region [] [] [6] [] [] ⟨[(6, (.v (.bool false), []))], [], []⟩ _ (by kernel_rfl) .nil ?_
                          refine Wc.ret ?_
                          obtain rfl := Option.some.inj h
                          exact ⟨.inl rfl, by kernel_rfl, by kernel_rfl⟩
                        · refine Wc.condF h326 (by kernel_rfl) ?_
                          refine Wc.fix (st' := ⟨[(14, (.v (.int .i64 s304_.2), [])), (15, (.v (.int .i64 b309_), []))], [], []⟩) [] [14, 15] [] [] (by kernel_rfl) ?_
                          refine Wc.skip ?_
                          refine Wc.seq ?_
                          refine Wc.seq ?_
                          refine Wc.region [] [] [105] [] [] ⟨[(105, (.v (.bool (b309_ != s304_.2)), []))], [], []⟩ _ (by kernel_rfl) .nil ?_
                          rcases oif h with ⟨h327, h⟩ | ⟨h327, h⟩
                          · refine Wc.condT h327 (by kernel_rfl) ?_
                            refine Wc.seq ?_
                            refine Wc.region [] [] [6] [] [] ⟨[(6, (.v (.bool false), []))], [], []⟩ _ (by kernel_rfl) .nil ?_
                            refine Wc.ret ?_
                            obtain rfl := Option.some.inj h
                            exact ⟨.inl rfl, by kernel_rfl, by kernel_rfl⟩
                          · refine Wc.condF h327 (by kernel_rfl) ?_
                            refine Wc.fix (st' := ⟨[], [], []⟩) [] [] [] [] (by kernel_rfl) ?_
                            refine Wc.skip ?_
                            refine Wc.seq ?_
                            refine Wc.region [] [] [6] [] [] ⟨[(6, (.v (.bool true), []))], [], []⟩ _ (by kernel_rfl) .nil ?_
                            refine Wc.ret ?_
                            obtain rfl := Option.some.inj h
                            exact ⟨.inl rfl, by kernel_rfl, by kernel_rfl⟩
end Go.Proofs.Ytbfkmgenokhkgaa

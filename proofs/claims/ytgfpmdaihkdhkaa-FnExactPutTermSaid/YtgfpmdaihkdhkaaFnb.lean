/- What the functions do, part 2. -/
import Derived.Test.YtgfpmdaihkdhkaaFna
set_option linter.unusedVariables false
set_option linter.unusedSimpArgs false
namespace Go.Proofs.Ytgfpmdaihkdhkaa
open Go.RowKit Go.Bv
def pspec_l13Of_J2 (k : Nat) (bk_ : Int → GL13Heap → Option (Out GL13Heap GL13Heap)) (e191_ : GHeap) (b192_ : Int) (q193_ : GL13Heap) (l195_ : Bool) : Option (Out GL13Heap GL13Heap) :=
  if l195_ = true then
    (at' e191_.gCells b192_).bind fun c196_ =>
    (pspec_l13Heap_name k q193_ c196_.gNum b192_).bind fun q197_ =>
    bk_ (wr.i64 (b192_ + 1)) q197_
  else
    bk_ (wr.i64 (b192_ + 1)) q193_
def pspec_l13Of_L1 (k : Nat) (e191_ : GHeap) : Nat → Int → GL13Heap → Option (Out GL13Heap GL13Heap)
  | 0, _, _ => none
  | m + 1, b192_, q193_ =>
    if (decide (b192_ < (e191_.gCells.length : Int))) = true then
      (at' e191_.gCells b192_).bind fun c198_ =>
      if (c198_.gKind == 1) = true then
        (at' e191_.gCells b192_).bind fun c199_ =>
        (pspec_l01In k c199_.gNum 0 200000).bind fun l200_ =>
        pspec_l13Of_J2 k (pspec_l13Of_L1 k e191_ m) e191_ b192_ q193_ l200_
      else
        pspec_l13Of_J2 k (pspec_l13Of_L1 k e191_ m) e191_ b192_ q193_ false
    else
      some (.done q193_)
/-- spec.l13Of -/
def pspec_l13Of (k : Nat) (e191_ : GHeap) : Option GL13Heap :=
  if ([] : List GCell).length + e191_.gCells.length ≤ 1073741824 then
    if ([] : List Int).length + e191_.gTrail.length ≤ 1073741824 then
      (pspec_l13Of_L1 k e191_ k 0 (GL13Heap.mk e191_.gCells e191_.gTrail [] 0)).bind fun out1 => match out1 with
      | .ret r => some r
      | .done q194_ =>
        some q194_
    else none
  else none
set_option maxHeartbeats 4000000 in
theorem cspec_l13Of {k : Nat} {e191_ : GHeap} {r : GL13Heap} (h : pspec_l13Of k e191_ = some r) : FnO Try.prog 129 [.v (.agg [.sl (List.map GCell.c e191_.gCells), .sl (List.map cI.i64 e191_.gTrail)]) []] (.p [.slx, .slx, .slx, .int .i64 r.gPairs] [(0, .ex 139 false (List.map GCell.c r.gCells)), (1, .ex 3 false (List.map cI.i64 r.gTrail)), (2, .ex 3 false (List.map cI.i64 r.gRefs))]) [] := by
  refine FnO.of Try.func129 (rfl : Try.f129.body = some _) (Nat.le_of_ble_eq_true (by kernel_rfl)) (Nat.le_of_ble_eq_true (by kernel_rfl)) ?_
  intro w0 X0 Fin pv0 pb
  unfold pspec_l13Of at h
  refine Wc.seq ?_
  refine Wc.region [] [] [1] [1] [] ⟨[(1, (.ptr 1 0, []))], [(1, .cells [.sl (List.map GCell.c e191_.gCells), .sl (List.map cI.i64 e191_.gTrail)] [])], []⟩ _ (by kernel_rfl) .nil ?_
  refine Wc.seq ?_
  obtain ⟨h206, h⟩ := oguard h
  obtain ⟨h207, h⟩ := oguard h
  refine Wc.draw hmix [{ c := some (List.map GCell.c []), md := 1 }, {}, {}, { c := some (List.map GCell.c e191_.gCells), tk := [5], md := 1 }, { c := some (List.map cI.i64 []), md := 1 }, {}, {}, { c := some (List.map cI.i64 e191_.gTrail), tk := [9], md := 1 }, { tk := [8, 12] }, { tk := [13] }] [.so 14] [1, 3] [1, 14] [] ⟨[(1, (.ptr 1 0, [])), (3, (.ptr 14 0, []))], [(1, .cells [.sl (List.map GCell.c e191_.gCells), .sl (List.map cI.i64 e191_.gTrail)] []), (14, .cells [.slx, .slx, .sl (List.map cI.i64 []), .int .i64 0] [(0, .ex 139 false (List.map GCell.c e191_.gCells)), (1, .ex 3 false (List.map cI.i64 e191_.gTrail)), (2, .app 3)])], []⟩ _ (by kernel_rfl) (fun X => by kernel_rfl) (.cons (cl_nil GCell.c) (.cons (app_re0 GCell.c e191_.gCells) (.cons (app_leaf (c := GCell.c) (ys := e191_.gCells) GCell.c_leaf) (.cons (app_obl2 (c := GCell.c) (xs := []) (ys := e191_.gCells) GCell.c_len h206) (.cons (cl_nil cI.i64) (.cons (app_re0 cI.i64 e191_.gTrail) (.cons (app_leaf (c := cI.i64) (ys := e191_.gTrail) cI.i64_leaf) (.cons (app_obl2 (c := cI.i64) (xs := []) (ys := e191_.gTrail) cI.i64_len h207) .nil)))))))) ?_
  refine Wc.seq ?_
  refine Wc.seq ?_
  refine Wc.region [] [] [1, 3, 4] [1, 14] [] ⟨[(1, (.ptr 1 0, [])), (3, (.ptr 14 0, [])), (4, (.v (.int .i64 0), []))], [(1, .cells [.sl (List.map GCell.c e191_.gCells), .sl (List.map cI.i64 e191_.gTrail)] []), (14, .cells [.slx, .slx, .sl (List.map cI.i64 []), .int .i64 0] [(0, .ex 139 false (List.map GCell.c e191_.gCells)), (1, .ex 3 false (List.map cI.i64 e191_.gTrail)), (2, .app 3)])], []⟩ _ (by kernel_rfl) .nil ?_
  obtain ⟨out1, h208, h⟩ := obind h
  refine Wc.lastJ (fun st => ∃ (q194_ : GL13Heap), out1 = .done q194_ ∧ st = ⟨[(3, (.ptr 14 0, []))], [(14, .cells [.slx, .slx, .slx, .int .i64 q194_.gPairs] [(0, .ex 139 false (List.map GCell.c q194_.gCells)), (1, .ex 3 false (List.map cI.i64 q194_.gTrail)), (2, .ex 3 false (List.map cI.i64 q194_.gRefs))])], []⟩) ?_ ?_
  · refine Wc.block ?_
    refine Wc.fix (st' := ⟨[(1, (.ptr 1 0, [])), (3, (.ptr 14 0, [])), (4, (.v (.int .i64 0), []))], [(1, .cells [.sl (List.map GCell.c e191_.gCells), .sl (List.map cI.i64 e191_.gTrail)] []), (14, .cells [.slx, .slx, .slx, .int .i64 0] [(0, .ex 139 false (List.map GCell.c e191_.gCells)), (1, .ex 3 false (List.map cI.i64 e191_.gTrail)), (2, .ex 3 false (List.map cI.i64 []))])], []⟩) [.ow (.b 14 2) false] [1, 3, 4] [1, 14] [] (by kernel_rfl) ?_
    refine Wc.loop (fun m st => ∃ (b192_ : Int) (q193_ : GL13Heap), st = ⟨[(1, (.ptr 1 0, [])), (3, (.ptr 14 0, [])), (4, (.v (.int .i64 b192_), []))], [(1, .cells [.sl (List.map GCell.c e191_.gCells), .sl (List.map cI.i64 e191_.gTrail)] []), (14, .cells [.slx, .slx, .slx, .int .i64 q193_.gPairs] [(0, .ex 139 false (List.map GCell.c q193_.gCells)), (1, .ex 3 false (List.map cI.i64 q193_.gTrail)), (2, .ex 3 false (List.map cI.i64 q193_.gRefs))])], []⟩ ∧ pspec_l13Of_L1 k e191_ m b192_ q193_ = some out1) ?_ k ⟨_, _, rfl, h208⟩
    rintro m st ⟨b192_, q193_, rfl, h208⟩
    cases m with
    | zero => exact (onone h208).elim
    | succ m =>
      refine Wc.seq ?_
      refine Wc.seq ?_
      refine Wc.region [{}, {}, {}, { v := some (.int .i64 (e191_.gCells.length : Int)) }] [] [1, 3, 4, 19] [1, 14] [] ⟨[(1, (.ptr 1 0, [])), (3, (.ptr 14 0, [])), (4, (.v (.int .i64 b192_), [])), (19, (.v (.bool (decide (b192_ < (e191_.gCells.length : Int)))), []))], [(1, .cells [.sl (List.map GCell.c e191_.gCells), .sl (List.map cI.i64 e191_.gTrail)] []), (14, .cells [.slx, .slx, .slx, .int .i64 q193_.gPairs] [(0, .ex 139 false (List.map GCell.c q193_.gCells)), (1, .ex 3 false (List.map cI.i64 q193_.gTrail)), (2, .ex 3 false (List.map cI.i64 q193_.gRefs))])], []⟩ _ (by kernel_rfl) (.cons (len_obl GCell.c e191_.gCells) .nil) ?_
      rcases oif h208 with ⟨h209, h208⟩ | ⟨h209, h208⟩
      · refine Wc.condT h209 (by kernel_rfl) ?_
        refine Wc.fix (st' := ⟨[(1, (.ptr 1 0, [])), (3, (.ptr 14 0, [])), (4, (.v (.int .i64 b192_), []))], [(1, .cells [.sl (List.map GCell.c e191_.gCells), .sl (List.map cI.i64 e191_.gTrail)] []), (14, .cells [.slx, .slx, .slx, .int .i64 q193_.gPairs] [(0, .ex 139 false (List.map GCell.c q193_.gCells)), (1, .ex 3 false (List.map cI.i64 q193_.gTrail)), (2, .ex 3 false (List.map cI.i64 q193_.gRefs))])], []⟩) [] [1, 3, 4] [1, 14] [] (by kernel_rfl) ?_
        refine Wc.skip ?_
        refine Wc.seq ?_
        refine Wc.block ?_
        refine Wc.seqJ (fun st => ∃ (l195_ : Bool), st = ⟨[(1, (.ptr 1 0, [])), (3, (.ptr 14 0, [])), (4, (.v (.int .i64 b192_), [])), (37, (.v (.bool l195_), []))], [(1, .cells [.sl (List.map GCell.c e191_.gCells), .sl (List.map cI.i64 e191_.gTrail)] []), (14, .cells [.slx, .slx, .slx, .int .i64 q193_.gPairs] [(0, .ex 139 false (List.map GCell.c q193_.gCells)), (1, .ex 3 false (List.map cI.i64 q193_.gTrail)), (2, .ex 3 false (List.map cI.i64 q193_.gRefs))])], []⟩ ∧ pspec_l13Of_J2 k (pspec_l13Of_L1 k e191_ m) e191_ b192_ q193_ l195_ = some out1) ?_ ?_
        · obtain ⟨c198_, h213, h208⟩ := obind h208
          rcases oif h208 with ⟨h214, h208⟩ | ⟨h214, h208⟩
          · obtain ⟨c199_, h215, h208⟩ := obind h208
            obtain ⟨l200_, h216, h208⟩ := obind h208
            refine Wc.region [{}, {}, {}, { v := some (.vptr [.int .i64 c198_.gKind, .str c198_.gName, .int .i64 c198_.gNum, .int .i64 c198_.gTo, .sl (List.map cI.i64 c198_.gKids)]) }, {}, {}, {}, { re := some (.bool true) }, {}, {}, {}, { v := some (.vptr [.int .i64 c199_.gKind, .str c199_.gName, .int .i64 c199_.gNum, .int .i64 c199_.gTo, .sl (List.map cI.i64 c199_.gKids)]) }, {}, {}, { r := some (.v (.bool l200_) []) }] [] [1, 3, 4, 37] [1, 14] [] ⟨[(1, (.ptr 1 0, [])), (3, (.ptr 14 0, [])), (4, (.v (.int .i64 b192_), [])), (37, (.v (.bool l200_), []))], [(1, .cells [.sl (List.map GCell.c e191_.gCells), .sl (List.map cI.i64 e191_.gTrail)] []), (14, .cells [.slx, .slx, .slx, .int .i64 q193_.gPairs] [(0, .ex 139 false (List.map GCell.c q193_.gCells)), (1, .ex 3 false (List.map cI.i64 q193_.gTrail)), (2, .ex 3 false (List.map cI.i64 q193_.gRefs))])], []⟩ _ (by kernel_rfl) (.cons (at_obl (c := GCell.c) (GCell.c_eq c198_) GCell.c_len h213) (.cons (len_ok 1 [.int .i64 c198_.gKind, .str c198_.gName, .int .i64 c198_.gNum, .int .i64 c198_.gTo, .sl (List.map cI.i64 c198_.gKids)]) (.cons (congrArg AV.bool h214) (.cons (at_obl (c := GCell.c) (GCell.c_eq c199_) GCell.c_len h215) (.cons (len_ok 1 [.int .i64 c199_.gNum, .int .i64 c199_.gTo, .sl (List.map cI.i64 c199_.gKids)]) (.cons (cspec_l01In h216) .nil)))))) ?_
            exact ⟨_, rfl, h208⟩
          · refine Wc.region [{}, {}, {}, { v := some (.vptr [.int .i64 c198_.gKind, .str c198_.gName, .int .i64 c198_.gNum, .int .i64 c198_.gTo, .sl (List.map cI.i64 c198_.gKids)]) }, {}, {}, {}, { re := some (.bool false) }] [] [1, 3, 4, 37] [1, 14] [] ⟨[(1, (.ptr 1 0, [])), (3, (.ptr 14 0, [])), (4, (.v (.int .i64 b192_), [])), (37, (.v (.bool false), []))], [(1, .cells [.sl (List.map GCell.c e191_.gCells), .sl (List.map cI.i64 e191_.gTrail)] []), (14, .cells [.slx, .slx, .slx, .int .i64 q193_.gPairs] [(0, .ex 139 false (List.map GCell.c q193_.gCells)), (1, .ex 3 false (List.map cI.i64 q193_.gTrail)), (2, .ex 3 false (List.map cI.i64 q193_.gRefs))])], []⟩ _ (by kernel_rfl) (.cons (at_obl (c := GCell.c) (GCell.c_eq c198_) GCell.c_len h213) (.cons (len_ok 1 [.int .i64 c198_.gKind, .str c198_.gName, .int .i64 c198_.gNum, .int .i64 c198_.gTo, .sl (List.map cI.i64 c198_.gKids)]) (.cons (congrArg AV.bool h214) .nil))) ?_
            exact ⟨_, rfl, h208⟩
        · rintro st ⟨l195_, rfl, h208⟩
          rcases oif h208 with ⟨h210, h208⟩ | ⟨h210, h208⟩
          · refine Wc.condT h210 (by kernel_rfl) ?_
            obtain ⟨c196_, h211, h208⟩ := obind h208
            obtain ⟨q197_, h212, h208⟩ := obind h208
            refine Wc.region [{}, {}, {}, {}, { v := some (.vptr [.int .i64 c196_.gKind, .str c196_.gName, .int .i64 c196_.gNum, .int .i64 c196_.gTo, .sl (List.map cI.i64 c196_.gKids)]) }, {}, {}, {}, { r := some (.v (.tup []) []), outs := [(0, .p [.slx, .slx, .slx, .int .i64 q197_.gPairs] [(0, .ex 139 false (List.map GCell.c q197_.gCells)), (1, .ex 3 false (List.map cI.i64 q197_.gTrail)), (2, .ex 3 false (List.map cI.i64 q197_.gRefs))])] }] [] [1, 3, 4] [1, 14] [] ⟨[(1, (.ptr 1 0, [])), (3, (.ptr 14 0, [])), (4, (.v (.int .i64 b192_), []))], [(1, .cells [.sl (List.map GCell.c e191_.gCells), .sl (List.map cI.i64 e191_.gTrail)] []), (14, .cells [.slx, .slx, .slx, .int .i64 q197_.gPairs] [(0, .ex 139 false (List.map GCell.c q197_.gCells)), (1, .ex 3 false (List.map cI.i64 q197_.gTrail)), (2, .ex 3 false (List.map cI.i64 q197_.gRefs))])], []⟩ _ (by kernel_rfl) (.cons (at_obl (c := GCell.c) (GCell.c_eq c196_) GCell.c_len h211) (.cons (len_ok 1 [.int .i64 c196_.gNum, .int .i64 c196_.gTo, .sl (List.map cI.i64 c196_.gKids)]) (.cons (cspec_l13Heap_name h212) .nil))) ?_
            refine Wc.region [] [] [1, 3, 4] [1, 14] [] ⟨[(1, (.ptr 1 0, [])), (3, (.ptr 14 0, [])), (4, (.v (.int .i64 (wr.i64 (b192_ + 1))), []))], [(1, .cells [.sl (List.map GCell.c e191_.gCells), .sl (List.map cI.i64 e191_.gTrail)] []), (14, .cells [.slx, .slx, .slx, .int .i64 q197_.gPairs] [(0, .ex 139 false (List.map GCell.c q197_.gCells)), (1, .ex 3 false (List.map cI.i64 q197_.gTrail)), (2, .ex 3 false (List.map cI.i64 q197_.gRefs))])], []⟩ _ (by kernel_rfl) .nil ?_
            exact ⟨_, Nat.lt_succ_self _, _, _, rfl, h208⟩
          · refine Wc.condF h210 (by kernel_rfl) ?_
            refine Wc.fix (st' := ⟨[(1, (.ptr 1 0, [])), (3, (.ptr 14 0, [])), (4, (.v (.int .i64 b192_), []))], [(1, .cells [.sl (List.map GCell.c e191_.gCells), .sl (List.map cI.i64 e191_.gTrail)] []), (14, .cells [.slx, .slx, .slx, .int .i64 q193_.gPairs] [(0, .ex 139 false (List.map GCell.c q193_.gCells)), (1, .ex 3 false (List.map cI.i64 q193_.gTrail)), (2, .ex 3 false (List.map cI.i64 q193_.gRefs))])], []⟩) [] [1, 3, 4] [1, 14] [] (by kernel_rfl) ?_
            refine Wc.skip ?_
            refine Wc.region [] [] [1, 3, 4] [1, 14] [] ⟨[(1, (.ptr 1 0, [])), (3, (.ptr 14 0, [])), (4, (.v (.int .i64 (wr.i64 (b192_ + 1))), []))], [(1, .cells [.sl (List.map GCell.c e191_.gCells), .sl (List.map cI.i64 e191_.gTrail)] []), (14, .cells [.slx, .slx, .slx, .int .i64 q193_.gPairs] [(0, .ex 139 false (List.map GCell.c q193_.gCells)), (1, .ex 3 false (List.map cI.i64 q193_.gTrail)), (2, .ex 3 false (List.map cI.i64 q193_.gRefs))])], []⟩ _ (by kernel_rfl) .nil ?_
            exact ⟨_, Nat.lt_succ_self _, _, _, rfl, h208⟩
      · refine Wc.condF h209 (by kernel_rfl) ?_
        refine Wc.fix (st' := ⟨[(3, (.ptr 14 0, []))], [(14, .cells [.slx, .slx, .slx, .int .i64 q193_.gPairs] [(0, .ex 139 false (List.map GCell.c q193_.gCells)), (1, .ex 3 false (List.map cI.i64 q193_.gTrail)), (2, .ex 3 false (List.map cI.i64 q193_.gRefs))])], []⟩) [] [3] [14] [] (by kernel_rfl) ?_
        refine Wc.exit ?_
        obtain rfl := Option.some.inj h208
        exact ⟨_, rfl, rfl⟩
  · rintro st ⟨q194_, rfl, rfl⟩
    refine Wc.seq ?_
    refine Wc.region [] [] [2] [14] [] ⟨[(2, (.ptr 14 0, []))], [(14, .cells [.slx, .slx, .slx, .int .i64 q194_.gPairs] [(0, .ex 139 false (List.map GCell.c q194_.gCells)), (1, .ex 3 false (List.map cI.i64 q194_.gTrail)), (2, .ex 3 false (List.map cI.i64 q194_.gRefs))])], []⟩ _ (by kernel_rfl) .nil ?_
    refine Wc.ret ?_
    obtain rfl := Option.some.inj h
    exact ⟨.inl rfl, by kernel_rfl, by kernel_rfl⟩

/-- (*spec.l13Heap).heap -/
def pspec_l13Heap_heap (k : Nat) (q202_ : GL13Heap) : Option (GL13Heap × GHeap) :=
  if ([] : List GCell).length + q202_.gCells.length ≤ 1073741824 then
    if ([] : List Int).length + q202_.gTrail.length ≤ 1073741824 then
      some (q202_, GHeap.mk q202_.gCells q202_.gTrail)
    else none
  else none
theorem cspec_l13Heap_heap {k : Nat} {q202_ : GL13Heap} {r : GL13Heap × GHeap} (h : pspec_l13Heap_heap k q202_ = some r) : FnO Try.prog 130 [.p [.slx, .slx, .slx, .int .i64 q202_.gPairs] [(0, .ex 139 false (List.map GCell.c q202_.gCells)), (1, .ex 3 false (List.map cI.i64 q202_.gTrail)), (2, .ex 3 false (List.map cI.i64 q202_.gRefs))]] (.v (.agg [.sl (List.map GCell.c r.2.gCells), .sl (List.map cI.i64 r.2.gTrail)]) [(0, .app 139), (1, .app 3)]) [(0, .p [.slx, .slx, .slx, .int .i64 r.1.gPairs] [(0, .ex 139 false (List.map GCell.c r.1.gCells)), (1, .ex 3 false (List.map cI.i64 r.1.gTrail)), (2, .ex 3 false (List.map cI.i64 r.1.gRefs))])] := by
  refine FnO.of Try.func130 (rfl : Try.f130.body = some _) (Nat.le_of_ble_eq_true (by kernel_rfl)) (Nat.le_of_ble_eq_true (by kernel_rfl)) ?_
  intro w0 X0 Fin pv0 pb
  unfold pspec_l13Heap_heap at h
  refine Wc.seq ?_
  refine Wc.region [] [] [0, 2] [2, 1000000] [] ⟨[(0, (.ptr 1000000 0, [])), (2, (.ptr 2 0, []))], [(2, .cells [.sl (List.map GCell.c []), .sl (List.map cI.i64 [])] [(0, .app 139), (1, .app 3)]), (1000000, .cells [.slx, .slx, .slx, .int .i64 q202_.gPairs] [(0, .ex 139 false (List.map GCell.c q202_.gCells)), (1, .ex 3 false (List.map cI.i64 q202_.gTrail)), (2, .ex 3 false (List.map cI.i64 q202_.gRefs))])], []⟩ _ (by kernel_rfl) .nil ?_
  refine Wc.seq ?_
  obtain ⟨h219, h⟩ := oguard h
  obtain ⟨h220, h⟩ := oguard h
  refine Wc.draw hmix [{ c := some (List.map GCell.c []) }, {}, {}, {}, {}, { c := some (List.map GCell.c q202_.gCells), tk := [3] }, { c := some (List.map cI.i64 []) }, {}, {}, {}, {}, { c := some (List.map cI.i64 q202_.gTrail), tk := [9] }, { tk := [8, 14] }, { tk := [15] }] [] [2] [2, 1000000] [] ⟨[(2, (.ptr 2 0, []))], [(2, .cells [.sl (List.map GCell.c q202_.gCells), .sl (List.map cI.i64 q202_.gTrail)] [(0, .app 139), (1, .app 3)]), (1000000, .cells [.slx, .slx, .slx, .int .i64 q202_.gPairs] [(0, .ex 139 false (List.map GCell.c q202_.gCells)), (1, .ex 3 false (List.map cI.i64 q202_.gTrail)), (2, .ex 3 false (List.map cI.i64 q202_.gRefs))])], []⟩ _ (by kernel_rfl) (fun X => by kernel_rfl) (.cons (cl_nil GCell.c) (.cons (app_re0 GCell.c q202_.gCells) (.cons (app_leaf (c := GCell.c) (ys := q202_.gCells) GCell.c_leaf) (.cons (app_obl2 (c := GCell.c) (xs := []) (ys := q202_.gCells) GCell.c_len h219) (.cons (cl_nil cI.i64) (.cons (app_re0 cI.i64 q202_.gTrail) (.cons (app_leaf (c := cI.i64) (ys := q202_.gTrail) cI.i64_leaf) (.cons (app_obl2 (c := cI.i64) (xs := []) (ys := q202_.gTrail) cI.i64_len h220) .nil)))))))) ?_
  refine Wc.ret ?_
  obtain rfl := Option.some.inj h
  exact ⟨.inl rfl, by kernel_rfl, by kernel_rfl⟩

/-- (*spec.l13Heap).add -/
def pspec_l13Heap_add (k : Nat) (q203_ : GL13Heap) (c204_ : GCell) : Option (GL13Heap × Int) :=
  if q203_.gCells.length + [c204_].length ≤ 1073741824 then
    some (GL13Heap.mk (q203_.gCells ++ [c204_]) q203_.gTrail q203_.gRefs q203_.gPairs, wr.i64 (((q203_.gCells ++ [c204_]).length : Int) - 1))
  else none
theorem cspec_l13Heap_add {k : Nat} {q203_ : GL13Heap} {c204_ : GCell} {r : GL13Heap × Int} (h : pspec_l13Heap_add k q203_ c204_ = some r) : FnO Try.prog 149 [.p [.slx, .slx, .slx, .int .i64 q203_.gPairs] [(0, .ex 139 false (List.map GCell.c q203_.gCells)), (1, .ex 3 false (List.map cI.i64 q203_.gTrail)), (2, .ex 3 false (List.map cI.i64 q203_.gRefs))], .v (.agg [.int .i64 c204_.gKind, .str c204_.gName, .int .i64 c204_.gNum, .int .i64 c204_.gTo, .sl (List.map cI.i64 c204_.gKids)]) []] (.v (.int .i64 r.2) []) [(0, .p [.slx, .slx, .slx, .int .i64 r.1.gPairs] [(0, .ex 139 false (List.map GCell.c r.1.gCells)), (1, .ex 3 false (List.map cI.i64 r.1.gTrail)), (2, .ex 3 false (List.map cI.i64 r.1.gRefs))])] := by
  refine FnO.of Try.func149 (rfl : Try.f149.body = some _) (Nat.le_of_ble_eq_true (by kernel_rfl)) (Nat.le_of_ble_eq_true (by kernel_rfl)) ?_
  intro w0 X0 Fin pv0 pb
  unfold pspec_l13Heap_add at h
  refine Wc.seq ?_
  refine Wc.region [] [] [0, 3] [3, 1000000] [] ⟨[(0, (.ptr 1000000 0, [])), (3, (.ptr 3 0, []))], [(3, .cells [.int .i64 c204_.gKind, .str c204_.gName, .int .i64 c204_.gNum, .int .i64 c204_.gTo, .sl (List.map cI.i64 c204_.gKids)] []), (1000000, .cells [.slx, .slx, .slx, .int .i64 q203_.gPairs] [(0, .ex 139 false (List.map GCell.c q203_.gCells)), (1, .ex 3 false (List.map cI.i64 q203_.gTrail)), (2, .ex 3 false (List.map cI.i64 q203_.gRefs))])], []⟩ _ (by kernel_rfl) .nil ?_
  refine Wc.seq ?_
  obtain ⟨h221, h⟩ := oguard h
  refine Wc.draw hmix [{}, {}, {}, {}, { md := 1 }, {}, { c := some (List.map GCell.c [c204_]) }, { c := some (List.map GCell.c (q203_.gCells ++ [c204_])), tk := [9], md := 1 }, {}, {}, { tk := [12] }] [.so 1000000] [0] [1000000] [] ⟨[(0, (.ptr 1000000 0, []))], [(1000000, .cells [.slx, .slx, .slx, .int .i64 q203_.gPairs] [(0, .ex 139 false (List.map GCell.c (q203_.gCells ++ [c204_]))), (1, .ex 3 false (List.map cI.i64 q203_.gTrail)), (2, .ex 3 false (List.map cI.i64 q203_.gRefs))])], []⟩ _ (by kernel_rfl) (fun X => by kernel_rfl) (.cons (cl_cons (c := GCell.c) (x := c204_) (GCell.c_eq c204_) (cl_nil GCell.c)) (.cons (app_re2 GCell.c q203_.gCells [c204_]) (.cons (app_leaf (c := GCell.c) (ys := [c204_]) GCell.c_leaf) (.cons (app_obl2 (c := GCell.c) (xs := q203_.gCells) (ys := [c204_]) GCell.c_len h221) .nil)))) ?_
  refine Wc.seq ?_
  refine Wc.region [{}, {}, {}, {}, { v := some (.int .i64 ((q203_.gCells ++ [c204_]).length : Int)) }] [] [4] [1000000] [] ⟨[(4, (.v (.int .i64 (wr.i64 (((q203_.gCells ++ [c204_]).length : Int) - 1))), []))], [(1000000, .cells [.slx, .slx, .slx, .int .i64 q203_.gPairs] [(0, .ex 139 false (List.map GCell.c (q203_.gCells ++ [c204_]))), (1, .ex 3 false (List.map cI.i64 q203_.gTrail)), (2, .ex 3 false (List.map cI.i64 q203_.gRefs))])], []⟩ _ (by kernel_rfl) (.cons (len_obl GCell.c (q203_.gCells ++ [c204_])) .nil) ?_
  refine Wc.ret ?_
  obtain rfl := Option.some.inj h
  exact ⟨.inl rfl, by kernel_rfl, by kernel_rfl⟩

def pspec_l13Heap_ref_J1 (k : Nat) (q205_ : GL13Heap) (b206_ : Int) (l207_ : Bool) : Option (GL13Heap × Int) :=
  if l207_ = true then
    (at' q205_.gRefs b206_).bind fun b208_ =>
    some (q205_, b208_)
  else
    (pspec_l13Heap_add k q205_ (GCell.mk 1 (bs []) b206_ (-1) [])).bind fun r209_ =>
    (pspec_l13Heap_name k (GL13Heap.mk r209_.1.gCells r209_.1.gTrail r209_.1.gRefs r209_.1.gPairs) b206_ r209_.2).bind fun q210_ =>
    some (q210_, r209_.2)
/-- (*spec.l13Heap).ref -/
def pspec_l13Heap_ref (k : Nat) (q205_ : GL13Heap) (b206_ : Int) : Option (GL13Heap × Int) :=
  if (decide (b206_ < (q205_.gRefs.length : Int))) = true then
    (at' q205_.gRefs b206_).bind fun b211_ =>
    pspec_l13Heap_ref_J1 k q205_ b206_ (decide (b211_ ≥ 0))
  else
    pspec_l13Heap_ref_J1 k q205_ b206_ false
theorem cspec_l13Heap_ref {k : Nat} {q205_ : GL13Heap} {b206_ : Int} {r : GL13Heap × Int} (h : pspec_l13Heap_ref k q205_ b206_ = some r) : FnO Try.prog 148 [.p [.slx, .slx, .slx, .int .i64 q205_.gPairs] [(0, .ex 139 false (List.map GCell.c q205_.gCells)), (1, .ex 3 false (List.map cI.i64 q205_.gTrail)), (2, .ex 3 false (List.map cI.i64 q205_.gRefs))], .v (.int .i64 b206_) []] (.v (.int .i64 r.2) []) [(0, .p [.slx, .slx, .slx, .int .i64 r.1.gPairs] [(0, .ex 139 false (List.map GCell.c r.1.gCells)), (1, .ex 3 false (List.map cI.i64 r.1.gTrail)), (2, .ex 3 false (List.map cI.i64 r.1.gRefs))])] := by
  refine FnO.of Try.func148 (rfl : Try.f148.body = some _) (Nat.le_of_ble_eq_true (by kernel_rfl)) (Nat.le_of_ble_eq_true (by kernel_rfl)) ?_
  intro w0 X0 Fin pv0 pb
  unfold pspec_l13Heap_ref at h
  refine Wc.seq ?_
  refine Wc.region [] [] [0, 1] [1000000] [] ⟨[(0, (.ptr 1000000 0, [])), (1, (.v (.int .i64 b206_), []))], [(1000000, .cells [.slx, .slx, .slx, .int .i64 q205_.gPairs] [(0, .ex 139 false (List.map GCell.c q205_.gCells)), (1, .ex 3 false (List.map cI.i64 q205_.gTrail)), (2, .ex 3 false (List.map cI.i64 q205_.gRefs))])], []⟩ _ (by kernel_rfl) .nil ?_
  refine Wc.seq ?_
  refine Wc.seqJ (fun st => ∃ (l207_ : Bool), st = ⟨[(0, (.ptr 1000000 0, [])), (1, (.v (.int .i64 b206_), [])), (22, (.v (.bool l207_), []))], [(1000000, .cells [.slx, .slx, .slx, .int .i64 q205_.gPairs] [(0, .ex 139 false (List.map GCell.c q205_.gCells)), (1, .ex 3 false (List.map cI.i64 q205_.gTrail)), (2, .ex 3 false (List.map cI.i64 q205_.gRefs))])], []⟩ ∧ pspec_l13Heap_ref_J1 k q205_ b206_ l207_ = some r) ?_ ?_
  · rcases oif h with ⟨h226, h⟩ | ⟨h226, h⟩
    · obtain ⟨b211_, h227, h⟩ := obind h
      refine Wc.region [{}, {}, {}, {}, {}, { v := some (.int .i64 (q205_.gRefs.length : Int)) }, {}, { re := some (.bool true) }, {}, {}, {}, {}, {}, {}, { v := some (.int .i64 b211_) }] [] [0, 1, 22] [1000000] [] ⟨[(0, (.ptr 1000000 0, [])), (1, (.v (.int .i64 b206_), [])), (22, (.v (.bool (decide (b211_ ≥ 0))), []))], [(1000000, .cells [.slx, .slx, .slx, .int .i64 q205_.gPairs] [(0, .ex 139 false (List.map GCell.c q205_.gCells)), (1, .ex 3 false (List.map cI.i64 q205_.gTrail)), (2, .ex 3 false (List.map cI.i64 q205_.gRefs))])], []⟩ _ (by kernel_rfl) (.cons (len_obl cI.i64 q205_.gRefs) (.cons (congrArg AV.bool h226) (.cons (ix_obl (c := cI.i64) cI.i64_len h227) (.cons (el_obl (sz := 1) (off := 0) (s := 1) (ag := false) (v := .int .i64 b211_) (c := cI.i64) rfl (at'_spec h227).2 rfl (Nat.le_of_ble_eq_true rfl) rfl) .nil)))) ?_
      exact ⟨_, rfl, h⟩
    · refine Wc.region [{}, {}, {}, {}, {}, { v := some (.int .i64 (q205_.gRefs.length : Int)) }, {}, { re := some (.bool false) }] [] [0, 1, 22] [1000000] [] ⟨[(0, (.ptr 1000000 0, [])), (1, (.v (.int .i64 b206_), [])), (22, (.v (.bool false), []))], [(1000000, .cells [.slx, .slx, .slx, .int .i64 q205_.gPairs] [(0, .ex 139 false (List.map GCell.c q205_.gCells)), (1, .ex 3 false (List.map cI.i64 q205_.gTrail)), (2, .ex 3 false (List.map cI.i64 q205_.gRefs))])], []⟩ _ (by kernel_rfl) (.cons (len_obl cI.i64 q205_.gRefs) (.cons (congrArg AV.bool h226) .nil)) ?_
      exact ⟨_, rfl, h⟩
  · rintro st ⟨l207_, rfl, h⟩
    rcases oif h with ⟨h222, h⟩ | ⟨h222, h⟩
    · refine Wc.condT h222 (by kernel_rfl) ?_
      refine Wc.seq ?_
      obtain ⟨b208_, h223, h⟩ := obind h
      refine Wc.region [{}, {}, {}, {}, {}, {}, { v := some (.int .i64 b208_) }] [] [4] [1000000] [] ⟨[(4, (.v (.int .i64 b208_), []))], [(1000000, .cells [.slx, .slx, .slx, .int .i64 q205_.gPairs] [(0, .ex 139 false (List.map GCell.c q205_.gCells)), (1, .ex 3 false (List.map cI.i64 q205_.gTrail)), (2, .ex 3 false (List.map cI.i64 q205_.gRefs))])], []⟩ _ (by kernel_rfl) (.cons (ix_obl (c := cI.i64) cI.i64_len h223) (.cons (el_obl (sz := 1) (off := 0) (s := 1) (ag := false) (v := .int .i64 b208_) (c := cI.i64) rfl (at'_spec h223).2 rfl (Nat.le_of_ble_eq_true rfl) rfl) .nil)) ?_
      refine Wc.ret ?_
      obtain rfl := Option.some.inj h
      exact ⟨.inl rfl, by kernel_rfl, by kernel_rfl⟩
    · refine Wc.condF h222 (by kernel_rfl) ?_
      refine Wc.fix (st' := ⟨[(0, (.ptr 1000000 0, [])), (1, (.v (.int .i64 b206_), []))], [(1000000, .cells [.slx, .slx, .slx, .int .i64 q205_.gPairs] [(0, .ex 139 false (List.map GCell.c q205_.gCells)), (1, .ex 3 false (List.map cI.i64 q205_.gTrail)), (2, .ex 3 false (List.map cI.i64 q205_.gRefs))])], []⟩) [] [0, 1] [1000000] [] (by kernel_rfl) ?_
      refine Wc.skip ?_
      refine Wc.seq ?_
      obtain ⟨r209_, h224, h⟩ := obind h
      refine Wc.region [{}, {}, {}, { r := some (.v (.int .i64 r209_.2) []), outs := [(0, .p [.slx, .slx, .slx, .int .i64 r209_.1.gPairs] [(0, .ex 139 false (List.map GCell.c r209_.1.gCells)), (1, .ex 3 false (List.map cI.i64 r209_.1.gTrail)), (2, .ex 3 false (List.map cI.i64 r209_.1.gRefs))])] }] [] [0, 1, 5] [1000000] [] ⟨[(0, (.ptr 1000000 0, [])), (1, (.v (.int .i64 b206_), [])), (5, (.v (.int .i64 r209_.2), []))], [(1000000, .cells [.slx, .slx, .slx, .int .i64 r209_.1.gPairs] [(0, .ex 139 false (List.map GCell.c r209_.1.gCells)), (1, .ex 3 false (List.map cI.i64 r209_.1.gTrail)), (2, .ex 3 false (List.map cI.i64 r209_.1.gRefs))])], []⟩ _ (by kernel_rfl) (.cons (cspec_l13Heap_add h224) .nil) ?_
      refine Wc.seq ?_
      obtain ⟨q210_, h225, h⟩ := obind h
      refine Wc.region [{}, {}, {}, { r := some (.v (.tup []) []), outs := [(0, .p [.slx, .slx, .slx, .int .i64 q210_.gPairs] [(0, .ex 139 false (List.map GCell.c q210_.gCells)), (1, .ex 3 false (List.map cI.i64 q210_.gTrail)), (2, .ex 3 false (List.map cI.i64 q210_.gRefs))])] }] [] [5] [1000000] [] ⟨[(5, (.v (.int .i64 r209_.2), []))], [(1000000, .cells [.slx, .slx, .slx, .int .i64 q210_.gPairs] [(0, .ex 139 false (List.map GCell.c q210_.gCells)), (1, .ex 3 false (List.map cI.i64 q210_.gTrail)), (2, .ex 3 false (List.map cI.i64 q210_.gRefs))])], []⟩ _ (by kernel_rfl) (.cons (cspec_l13Heap_name h225) .nil) ?_
      refine Wc.seq ?_
      refine Wc.region [] [] [4] [1000000] [] ⟨[(4, (.v (.int .i64 r209_.2), []))], [(1000000, .cells [.slx, .slx, .slx, .int .i64 q210_.gPairs] [(0, .ex 139 false (List.map GCell.c q210_.gCells)), (1, .ex 3 false (List.map cI.i64 q210_.gTrail)), (2, .ex 3 false (List.map cI.i64 q210_.gRefs))])], []⟩ _ (by kernel_rfl) .nil ?_
      refine Wc.ret ?_
      obtain rfl := Option.some.inj h
      exact ⟨.inl rfl, by kernel_rfl, by kernel_rfl⟩

def pspec_l13Heap_put_L1 (k : Nat) (rspec_l13Heap_put : GL13Heap → GTerm → Option (GL13Heap × Int)) (j213_ : GTerm) : Nat → (List Int) → Int → GL13Heap → Option (Out (GL13Heap × Int) ((List Int) × GL13Heap))
  | 0, _, _, _ => none
  | m + 1, a217_, b218_, q219_ =>
    if (decide (b218_ < (j213_.gKids.length : Int))) = true then
      (at' j213_.gKids b218_).bind fun j222_ =>
      (rspec_l13Heap_put q219_ j222_).bind fun r223_ =>
      if a217_.length + [r223_.2].length ≤ 1073741824 then
        pspec_l13Heap_put_L1 k rspec_l13Heap_put j213_ m (a217_ ++ [r223_.2]) (wr.i64 (b218_ + 1)) (GL13Heap.mk r223_.1.gCells r223_.1.gTrail r223_.1.gRefs r223_.1.gPairs)
      else none
    else
      some (.done (a217_, q219_))
mutual
/-- (*spec.l13Heap).put -/
def pspec_l13Heap_put : Nat → GL13Heap → GTerm → Option (GL13Heap × Int)
  | 0, _, _ => none
  | k + 1, q212_, j213_ =>
    if (j213_.gKind == 1) = true then
      (pspec_l13Heap_ref k q212_ j213_.gNum).bind fun r214_ =>
      some (GL13Heap.mk r214_.1.gCells r214_.1.gTrail r214_.1.gRefs r214_.1.gPairs, r214_.2)
    else
      if (j213_.gKind == 2) = true then
        (pspec_l13Heap_add k q212_ (GCell.mk 2 j213_.gName 0 0 [])).bind fun r215_ =>
        some (GL13Heap.mk r215_.1.gCells r215_.1.gTrail r215_.1.gRefs r215_.1.gPairs, r215_.2)
      else
        if (j213_.gKind == 3) = true then
          (pspec_l13Heap_add k q212_ (GCell.mk 3 (bs []) j213_.gNum 0 [])).bind fun r216_ =>
          some (GL13Heap.mk r216_.1.gCells r216_.1.gTrail r216_.1.gRefs r216_.1.gPairs, r216_.2)
        else
          (pspec_l13Heap_put_L1 k (pspec_l13Heap_put k) j213_ k [] 0 q212_).bind fun out1 => match out1 with
          | .ret r => some r
          | .done (a220_, q221_) =>
            (pspec_l13Heap_add k q221_ (GCell.mk 4 j213_.gName 0 0 a220_)).bind fun r224_ =>
            some (GL13Heap.mk r224_.1.gCells r224_.1.gTrail r224_.1.gRefs r224_.1.gPairs, r224_.2)
end
set_option maxHeartbeats 4000000 in
theorem all_pspec_l13Heap_put : ∀ k : Nat, (∀ {q212_ : GL13Heap} {j213_ : GTerm} {r : GL13Heap × Int}, pspec_l13Heap_put k q212_ j213_ = some r → FnO Try.prog 131 [.p [.slx, .slx, .slx, .int .i64 q212_.gPairs] [(0, .ex 139 false (List.map GCell.c q212_.gCells)), (1, .ex 3 false (List.map cI.i64 q212_.gTrail)), (2, .ex 3 false (List.map cI.i64 q212_.gRefs))], .v (.agg [.int .i64 j213_.gKind, .str j213_.gName, .int .i64 j213_.gNum, .sl (List.map GTerm.c j213_.gKids)]) []] (.v (.int .i64 r.2) []) [(0, .p [.slx, .slx, .slx, .int .i64 r.1.gPairs] [(0, .ex 139 false (List.map GCell.c r.1.gCells)), (1, .ex 3 false (List.map cI.i64 r.1.gTrail)), (2, .ex 3 false (List.map cI.i64 r.1.gRefs))])]) := by
  intro k
  induction k with
  | zero =>
    · intro q212_ j213_ r h
      exact (onone (by rw [pspec_l13Heap_put] at h; exact h)).elim
  | succ k ih =>
    have ih_pspec_l13Heap_put := @ih
    · intro q212_ j213_ r h
      rw [pspec_l13Heap_put] at h
      refine FnO.of Try.func131 (rfl : Try.f131.body = some _) (Nat.le_of_ble_eq_true (by kernel_rfl)) (Nat.le_of_ble_eq_true (by kernel_rfl)) ?_
      intro w0 X0 Fin pv0 pb
      refine Wc.seq ?_
      refine Wc.region [] [] [0, 3] [3, 1000000] [] ⟨[(0, (.ptr 1000000 0, [])), (3, (.ptr 3 0, []))], [(3, .cells [.int .i64 j213_.gKind, .str j213_.gName, .int .i64 j213_.gNum, .sl (List.map GTerm.c j213_.gKids)] []), (1000000, .cells [.slx, .slx, .slx, .int .i64 q212_.gPairs] [(0, .ex 139 false (List.map GCell.c q212_.gCells)), (1, .ex 3 false (List.map cI.i64 q212_.gTrail)), (2, .ex 3 false (List.map cI.i64 q212_.gRefs))])], []⟩ _ (by kernel_rfl) .nil ?_
      refine Wc.seq ?_
      refine Wc.seq ?_
      refine Wc.region [] [] [0, 3, 8] [3, 1000000] [] ⟨[(0, (.ptr 1000000 0, [])), (3, (.ptr 3 0, [])), (8, (.v (.int .i64 j213_.gKind), []))], [(3, .cells [.int .i64 j213_.gKind, .str j213_.gName, .int .i64 j213_.gNum, .sl (List.map GTerm.c j213_.gKids)] []), (1000000, .cells [.slx, .slx, .slx, .int .i64 q212_.gPairs] [(0, .ex 139 false (List.map GCell.c q212_.gCells)), (1, .ex 3 false (List.map cI.i64 q212_.gTrail)), (2, .ex 3 false (List.map cI.i64 q212_.gRefs))])], []⟩ _ (by kernel_rfl) .nil ?_
      refine Wc.block ?_
      refine Wc.seq ?_
      refine Wc.region [] [] [0, 3, 8, 9] [3, 1000000] [] ⟨[(0, (.ptr 1000000 0, [])), (3, (.ptr 3 0, [])), (8, (.v (.int .i64 j213_.gKind), [])), (9, (.v (.bool (j213_.gKind == 1)), []))], [(3, .cells [.int .i64 j213_.gKind, .str j213_.gName, .int .i64 j213_.gNum, .sl (List.map GTerm.c j213_.gKids)] []), (1000000, .cells [.slx, .slx, .slx, .int .i64 q212_.gPairs] [(0, .ex 139 false (List.map GCell.c q212_.gCells)), (1, .ex 3 false (List.map cI.i64 q212_.gTrail)), (2, .ex 3 false (List.map cI.i64 q212_.gRefs))])], []⟩ _ (by kernel_rfl) .nil ?_
      rcases oif h with ⟨h228, h⟩ | ⟨h228, h⟩
      · refine Wc.condT h228 (by kernel_rfl) ?_
        refine Wc.seq ?_
        obtain ⟨r214_, h229, h⟩ := obind h
        refine Wc.region [{}, {}, {}, { r := some (.v (.int .i64 r214_.2) []), outs := [(0, .p [.slx, .slx, .slx, .int .i64 r214_.1.gPairs] [(0, .ex 139 false (List.map GCell.c r214_.1.gCells)), (1, .ex 3 false (List.map cI.i64 r214_.1.gTrail)), (2, .ex 3 false (List.map cI.i64 r214_.1.gRefs))])] }] [] [4] [1000000] [] ⟨[(4, (.v (.int .i64 r214_.2), []))], [(1000000, .cells [.slx, .slx, .slx, .int .i64 r214_.1.gPairs] [(0, .ex 139 false (List.map GCell.c r214_.1.gCells)), (1, .ex 3 false (List.map cI.i64 r214_.1.gTrail)), (2, .ex 3 false (List.map cI.i64 r214_.1.gRefs))])], []⟩ _ (by kernel_rfl) (.cons (cspec_l13Heap_ref h229) .nil) ?_
        refine Wc.ret ?_
        obtain rfl := Option.some.inj h
        exact ⟨.inl rfl, by kernel_rfl, by kernel_rfl⟩
      · refine Wc.condF h228 (by kernel_rfl) ?_
        refine Wc.seq ?_
        refine Wc.region [] [] [0, 3, 8, 15] [3, 1000000] [] ⟨[(0, (.ptr 1000000 0, [])), (3, (.ptr 3 0, [])), (8, (.v (.int .i64 j213_.gKind), [])), (15, (.v (.bool (j213_.gKind == 2)), []))], [(3, .cells [.int .i64 j213_.gKind, .str j213_.gName, .int .i64 j213_.gNum, .sl (List.map GTerm.c j213_.gKids)] []), (1000000, .cells [.slx, .slx, .slx, .int .i64 q212_.gPairs] [(0, .ex 139 false (List.map GCell.c q212_.gCells)), (1, .ex 3 false (List.map cI.i64 q212_.gTrail)), (2, .ex 3 false (List.map cI.i64 q212_.gRefs))])], []⟩ _ (by kernel_rfl) .nil ?_
        rcases oif h with ⟨h230, h⟩ | ⟨h230, h⟩
        · refine Wc.condT h230 (by kernel_rfl) ?_
          refine Wc.seq ?_
          obtain ⟨r215_, h231, h⟩ := obind h
          refine Wc.region [{}, {}, {}, {}, { r := some (.v (.int .i64 r215_.2) []), outs := [(0, .p [.slx, .slx, .slx, .int .i64 r215_.1.gPairs] [(0, .ex 139 false (List.map GCell.c r215_.1.gCells)), (1, .ex 3 false (List.map cI.i64 r215_.1.gTrail)), (2, .ex 3 false (List.map cI.i64 r215_.1.gRefs))])] }] [] [4] [1000000] [] ⟨[(4, (.v (.int .i64 r215_.2), []))], [(1000000, .cells [.slx, .slx, .slx, .int .i64 r215_.1.gPairs] [(0, .ex 139 false (List.map GCell.c r215_.1.gCells)), (1, .ex 3 false (List.map cI.i64 r215_.1.gTrail)), (2, .ex 3 false (List.map cI.i64 r215_.1.gRefs))])], []⟩ _ (by kernel_rfl) (.cons (cspec_l13Heap_add h231) .nil) ?_
          refine Wc.ret ?_
          obtain rfl := Option.some.inj h
          exact ⟨.inl rfl, by kernel_rfl, by kernel_rfl⟩
        · refine Wc.condF h230 (by kernel_rfl) ?_
          refine Wc.seq ?_
          refine Wc.region [] [] [0, 3, 22] [3, 1000000] [] ⟨[(0, (.ptr 1000000 0, [])), (3, (.ptr 3 0, [])), (22, (.v (.bool (j213_.gKind == 3)), []))], [(3, .cells [.int .i64 j213_.gKind, .str j213_.gName, .int .i64 j213_.gNum, .sl (List.map GTerm.c j213_.gKids)] []), (1000000, .cells [.slx, .slx, .slx, .int .i64 q212_.gPairs] [(0, .ex 139 false (List.map GCell.c q212_.gCells)), (1, .ex 3 false (List.map cI.i64 q212_.gTrail)), (2, .ex 3 false (List.map cI.i64 q212_.gRefs))])], []⟩ _ (by kernel_rfl) .nil ?_
          rcases oif h with ⟨h232, h⟩ | ⟨h232, h⟩
          · refine Wc.condT h232 (by kernel_rfl) ?_
            refine Wc.seq ?_
            obtain ⟨r216_, h233, h⟩ := obind h
            refine Wc.region [{}, {}, {}, {}, { r := some (.v (.int .i64 r216_.2) []), outs := [(0, .p [.slx, .slx, .slx, .int .i64 r216_.1.gPairs] [(0, .ex 139 false (List.map GCell.c r216_.1.gCells)), (1, .ex 3 false (List.map cI.i64 r216_.1.gTrail)), (2, .ex 3 false (List.map cI.i64 r216_.1.gRefs))])] }] [] [4] [1000000] [] ⟨[(4, (.v (.int .i64 r216_.2), []))], [(1000000, .cells [.slx, .slx, .slx, .int .i64 r216_.1.gPairs] [(0, .ex 139 false (List.map GCell.c r216_.1.gCells)), (1, .ex 3 false (List.map cI.i64 r216_.1.gTrail)), (2, .ex 3 false (List.map cI.i64 r216_.1.gRefs))])], []⟩ _ (by kernel_rfl) (.cons (cspec_l13Heap_add h233) .nil) ?_
            refine Wc.ret ?_
            obtain rfl := Option.some.inj h
            exact ⟨.inl rfl, by kernel_rfl, by kernel_rfl⟩
          · refine Wc.condF h232 (by kernel_rfl) ?_
            refine Wc.fix (st' := ⟨[(0, (.ptr 1000000 0, [])), (3, (.ptr 3 0, []))], [(3, .cells [.int .i64 j213_.gKind, .str j213_.gName, .int .i64 j213_.gNum, .sl (List.map GTerm.c j213_.gKids)] []), (1000000, .cells [.slx, .slx, .slx, .int .i64 q212_.gPairs] [(0, .ex 139 false (List.map GCell.c q212_.gCells)), (1, .ex 3 false (List.map cI.i64 q212_.gTrail)), (2, .ex 3 false (List.map cI.i64 q212_.gRefs))])], []⟩) [] [0, 3] [3, 1000000] [] (by kernel_rfl) ?_
            refine Wc.skip ?_
            refine Wc.seq ?_
            refine Wc.region [{ c := some (List.map cI.i64 []) }, { tk := [29] }] [] [0, 3, 5] [3, 1000000] [] ⟨[(0, (.ptr 1000000 0, [])), (3, (.ptr 3 0, [])), (5, (.v (.sl (List.map cI.i64 [])), [(0, .app 3)]))], [(3, .cells [.int .i64 j213_.gKind, .str j213_.gName, .int .i64 j213_.gNum, .sl (List.map GTerm.c j213_.gKids)] []), (1000000, .cells [.slx, .slx, .slx, .int .i64 q212_.gPairs] [(0, .ex 139 false (List.map GCell.c q212_.gCells)), (1, .ex 3 false (List.map cI.i64 q212_.gTrail)), (2, .ex 3 false (List.map cI.i64 q212_.gRefs))])], []⟩ _ (by kernel_rfl) (.cons (cl_nil cI.i64) .nil) ?_
            refine Wc.seq ?_
            refine Wc.seq ?_
            refine Wc.region [] [] [0, 3, 5, 6] [3, 1000000] [] ⟨[(0, (.ptr 1000000 0, [])), (3, (.ptr 3 0, [])), (5, (.v (.sl (List.map cI.i64 [])), [(0, .app 3)])), (6, (.v (.int .i64 0), []))], [(3, .cells [.int .i64 j213_.gKind, .str j213_.gName, .int .i64 j213_.gNum, .sl (List.map GTerm.c j213_.gKids)] []), (1000000, .cells [.slx, .slx, .slx, .int .i64 q212_.gPairs] [(0, .ex 139 false (List.map GCell.c q212_.gCells)), (1, .ex 3 false (List.map cI.i64 q212_.gTrail)), (2, .ex 3 false (List.map cI.i64 q212_.gRefs))])], []⟩ _ (by kernel_rfl) .nil ?_
            obtain ⟨out1, h234, h⟩ := obind h
            refine Wc.lastJ (fun st => ∃ (a220_ : List Int) (q221_ : GL13Heap), out1 = .done (a220_, q221_) ∧ st = ⟨[(0, (.ptr 1000000 0, [])), (3, (.ptr 3 0, [])), (5, (.v (.sl (List.map cI.i64 a220_)), [(0, .app 3)]))], [(3, .cells [.int .i64 j213_.gKind, .str j213_.gName, .int .i64 j213_.gNum, .sl (List.map GTerm.c j213_.gKids)] []), (1000000, .cells [.slx, .slx, .slx, .int .i64 q221_.gPairs] [(0, .ex 139 false (List.map GCell.c q221_.gCells)), (1, .ex 3 false (List.map cI.i64 q221_.gTrail)), (2, .ex 3 false (List.map cI.i64 q221_.gRefs))])], []⟩) ?_ ?_
            · refine Wc.block ?_
              refine Wc.loop (fun m st => ∃ (a217_ : List Int) (b218_ : Int) (q219_ : GL13Heap), st = ⟨[(0, (.ptr 1000000 0, [])), (3, (.ptr 3 0, [])), (5, (.v (.sl (List.map cI.i64 a217_)), [(0, .app 3)])), (6, (.v (.int .i64 b218_), []))], [(3, .cells [.int .i64 j213_.gKind, .str j213_.gName, .int .i64 j213_.gNum, .sl (List.map GTerm.c j213_.gKids)] []), (1000000, .cells [.slx, .slx, .slx, .int .i64 q219_.gPairs] [(0, .ex 139 false (List.map GCell.c q219_.gCells)), (1, .ex 3 false (List.map cI.i64 q219_.gTrail)), (2, .ex 3 false (List.map cI.i64 q219_.gRefs))])], []⟩ ∧ pspec_l13Heap_put_L1 k (pspec_l13Heap_put k) j213_ m a217_ b218_ q219_ = some out1) ?_ k ⟨_, _, _, rfl, h234⟩
              rintro m st ⟨a217_, b218_, q219_, rfl, h234⟩
              cases m with
              | zero => exact (onone h234).elim
              | succ m =>
                refine Wc.seq ?_
                refine Wc.seq ?_
                refine Wc.region [{}, {}, {}, { v := some (.int .i64 (j213_.gKids.length : Int)) }] [] [0, 3, 5, 6, 34] [3, 1000000] [] ⟨[(0, (.ptr 1000000 0, [])), (3, (.ptr 3 0, [])), (5, (.v (.sl (List.map cI.i64 a217_)), [(0, .app 3)])), (6, (.v (.int .i64 b218_), [])), (34, (.v (.bool (decide (b218_ < (j213_.gKids.length : Int)))), []))], [(3, .cells [.int .i64 j213_.gKind, .str j213_.gName, .int .i64 j213_.gNum, .sl (List.map GTerm.c j213_.gKids)] []), (1000000, .cells [.slx, .slx, .slx, .int .i64 q219_.gPairs] [(0, .ex 139 false (List.map GCell.c q219_.gCells)), (1, .ex 3 false (List.map cI.i64 q219_.gTrail)), (2, .ex 3 false (List.map cI.i64 q219_.gRefs))])], []⟩ _ (by kernel_rfl) (.cons (len_obl GTerm.c j213_.gKids) .nil) ?_
                rcases oif h234 with ⟨h235, h234⟩ | ⟨h235, h234⟩
                · refine Wc.condT h235 (by kernel_rfl) ?_
                  refine Wc.fix (st' := ⟨[(0, (.ptr 1000000 0, [])), (3, (.ptr 3 0, [])), (5, (.v (.sl (List.map cI.i64 a217_)), [(0, .app 3)])), (6, (.v (.int .i64 b218_), []))], [(3, .cells [.int .i64 j213_.gKind, .str j213_.gName, .int .i64 j213_.gNum, .sl (List.map GTerm.c j213_.gKids)] []), (1000000, .cells [.slx, .slx, .slx, .int .i64 q219_.gPairs] [(0, .ex 139 false (List.map GCell.c q219_.gCells)), (1, .ex 3 false (List.map cI.i64 q219_.gTrail)), (2, .ex 3 false (List.map cI.i64 q219_.gRefs))])], []⟩) [] [0, 3, 5, 6] [3, 1000000] [] (by kernel_rfl) ?_
                  refine Wc.skip ?_
                  refine Wc.seq ?_
                  refine Wc.block ?_
                  obtain ⟨j222_, h236, h234⟩ := obind h234
                  obtain ⟨r223_, h237, h234⟩ := obind h234
                  obtain ⟨h238, h234⟩ := oguard h234
                  refine Wc.region [{ tk := [5] }, {}, {}, {}, {}, { v := some (.vptr [.int .i64 j222_.gKind, .str j222_.gName, .int .i64 j222_.gNum, .sl (List.map GTerm.c j222_.gKids)]) }, {}, { r := some (.v (.int .i64 r223_.2) []), outs := [(0, .p [.slx, .slx, .slx, .int .i64 r223_.1.gPairs] [(0, .ex 139 false (List.map GCell.c r223_.1.gCells)), (1, .ex 3 false (List.map cI.i64 r223_.1.gTrail)), (2, .ex 3 false (List.map cI.i64 r223_.1.gRefs))])] }, { c := some (List.map cI.i64 [r223_.2]) }, { c := some (List.map cI.i64 (a217_ ++ [r223_.2])), tk := [37] }, { tk := [46] }] [] [0, 3, 5, 6] [3, 1000000] [] ⟨[(0, (.ptr 1000000 0, [])), (3, (.ptr 3 0, [])), (5, (.v (.sl (List.map cI.i64 (a217_ ++ [r223_.2]))), [(0, .app 3)])), (6, (.v (.int .i64 b218_), []))], [(3, .cells [.int .i64 j213_.gKind, .str j213_.gName, .int .i64 j213_.gNum, .sl (List.map GTerm.c j213_.gKids)] []), (1000000, .cells [.slx, .slx, .slx, .int .i64 r223_.1.gPairs] [(0, .ex 139 false (List.map GCell.c r223_.1.gCells)), (1, .ex 3 false (List.map cI.i64 r223_.1.gTrail)), (2, .ex 3 false (List.map cI.i64 r223_.1.gRefs))])], []⟩ _ (by kernel_rfl) (.cons (at_obl (c := GTerm.c) (GTerm.c_eq j222_) GTerm.c_len h236) (.cons (len_ok 4 [.int .i64 j222_.gKind, .str j222_.gName, .int .i64 j222_.gNum, .sl (List.map GTerm.c j222_.gKids)]) (.cons (ih_pspec_l13Heap_put h237) (.cons (cl_cons (c := cI.i64) (x := r223_.2) rfl (cl_nil cI.i64)) (.cons (app_re2 cI.i64 a217_ [r223_.2]) (.cons (app_leaf (c := cI.i64) (ys := [r223_.2]) cI.i64_leaf) (.cons (app_obl2 (c := cI.i64) (xs := a217_) (ys := [r223_.2]) cI.i64_len h238) .nil))))))) ?_
                  refine Wc.region [] [] [0, 3, 5, 6] [3, 1000000] [] ⟨[(0, (.ptr 1000000 0, [])), (3, (.ptr 3 0, [])), (5, (.v (.sl (List.map cI.i64 (a217_ ++ [r223_.2]))), [(0, .app 3)])), (6, (.v (.int .i64 (wr.i64 (b218_ + 1))), []))], [(3, .cells [.int .i64 j213_.gKind, .str j213_.gName, .int .i64 j213_.gNum, .sl (List.map GTerm.c j213_.gKids)] []), (1000000, .cells [.slx, .slx, .slx, .int .i64 r223_.1.gPairs] [(0, .ex 139 false (List.map GCell.c r223_.1.gCells)), (1, .ex 3 false (List.map cI.i64 r223_.1.gTrail)), (2, .ex 3 false (List.map cI.i64 r223_.1.gRefs))])], []⟩ _ (by kernel_rfl) .nil ?_
                  exact ⟨_, Nat.lt_succ_self _, _, _, _, rfl, h234⟩
                · refine Wc.condF h235 (by kernel_rfl) ?_
                  refine Wc.fix (st' := ⟨[(0, (.ptr 1000000 0, [])), (3, (.ptr 3 0, [])), (5, (.v (.sl (List.map cI.i64 a217_)), [(0, .app 3)]))], [(3, .cells [.int .i64 j213_.gKind, .str j213_.gName, .int .i64 j213_.gNum, .sl (List.map GTerm.c j213_.gKids)] []), (1000000, .cells [.slx, .slx, .slx, .int .i64 q219_.gPairs] [(0, .ex 139 false (List.map GCell.c q219_.gCells)), (1, .ex 3 false (List.map cI.i64 q219_.gTrail)), (2, .ex 3 false (List.map cI.i64 q219_.gRefs))])], []⟩) [] [0, 3, 5] [3, 1000000] [] (by kernel_rfl) ?_
                  refine Wc.exit ?_
                  obtain rfl := Option.some.inj h234
                  exact ⟨_, _, rfl, rfl⟩
            · rintro st ⟨a220_, q221_, rfl, rfl⟩
              refine Wc.seq ?_
              obtain ⟨r224_, h239, h⟩ := obind h
              refine Wc.region [{}, {}, {}, { tk := [5] }, { tk := [50] }, { r := some (.v (.int .i64 r224_.2) []), outs := [(0, .p [.slx, .slx, .slx, .int .i64 r224_.1.gPairs] [(0, .ex 139 false (List.map GCell.c r224_.1.gCells)), (1, .ex 3 false (List.map cI.i64 r224_.1.gTrail)), (2, .ex 3 false (List.map cI.i64 r224_.1.gRefs))])] }] [] [4] [1000000] [] ⟨[(4, (.v (.int .i64 r224_.2), []))], [(1000000, .cells [.slx, .slx, .slx, .int .i64 r224_.1.gPairs] [(0, .ex 139 false (List.map GCell.c r224_.1.gCells)), (1, .ex 3 false (List.map cI.i64 r224_.1.gTrail)), (2, .ex 3 false (List.map cI.i64 r224_.1.gRefs))])], []⟩ _ (by kernel_rfl) (.cons (cspec_l13Heap_add h239) .nil) ?_
              refine Wc.ret ?_
              obtain rfl := Option.some.inj h
              exact ⟨.inl rfl, by kernel_rfl, by kernel_rfl⟩
theorem cspec_l13Heap_put {k : Nat} {q212_ : GL13Heap} {j213_ : GTerm} {r : GL13Heap × Int} (h : pspec_l13Heap_put k q212_ j213_ = some r) : FnO Try.prog 131 [.p [.slx, .slx, .slx, .int .i64 q212_.gPairs] [(0, .ex 139 false (List.map GCell.c q212_.gCells)), (1, .ex 3 false (List.map cI.i64 q212_.gTrail)), (2, .ex 3 false (List.map cI.i64 q212_.gRefs))], .v (.agg [.int .i64 j213_.gKind, .str j213_.gName, .int .i64 j213_.gNum, .sl (List.map GTerm.c j213_.gKids)]) []] (.v (.int .i64 r.2) []) [(0, .p [.slx, .slx, .slx, .int .i64 r.1.gPairs] [(0, .ex 139 false (List.map GCell.c r.1.gCells)), (1, .ex 3 false (List.map cI.i64 r.1.gTrail)), (2, .ex 3 false (List.map cI.i64 r.1.gRefs))])] := (all_pspec_l13Heap_put k) h

def pspec_l13PutTermRaw_J1 (k : Nat) (e237_ : GHeap) (j238_ : GTerm) (l239_ : Bool) : Option (GHeap × Int) :=
  if l239_ = true then
    (pspec_l13Of k e237_).bind fun q240_ =>
    (pspec_l13Heap_heap k q240_).bind fun s241_ =>
    some (GHeap.mk s241_.2.gCells s241_.2.gTrail, -1)
  else
    (pspec_l13Of k e237_).bind fun q242_ =>
    (pspec_l13Heap_put k q242_ j238_).bind fun r243_ =>
    if (decide ((r243_.1.gCells.length : Int) > 60000)) = true then
      (pspec_l13Of k e237_).bind fun q244_ =>
      (pspec_l13Heap_heap k q244_).bind fun s245_ =>
      some (GHeap.mk s245_.2.gCells s245_.2.gTrail, -1)
    else
      (pspec_l13Heap_heap k (GL13Heap.mk r243_.1.gCells r243_.1.gTrail r243_.1.gRefs r243_.1.gPairs)).bind fun s246_ =>
      some (GHeap.mk s246_.2.gCells s246_.2.gTrail, r243_.2)
/-- spec.l13PutTermRaw -/
def pspec_l13PutTermRaw (k : Nat) (e237_ : GHeap) (j238_ : GTerm) : Option (GHeap × Int) :=
  (pspec_TermOk k j238_).bind fun l247_ =>
  if (!l247_) = true then
    pspec_l13PutTermRaw_J1 k e237_ j238_ true
  else
    (pspec_HeapOk k e237_).bind fun l248_ =>
    pspec_l13PutTermRaw_J1 k e237_ j238_ (!l248_)
theorem cspec_l13PutTermRaw {k : Nat} {e237_ : GHeap} {j238_ : GTerm} {r : GHeap × Int} (h : pspec_l13PutTermRaw k e237_ j238_ = some r) : FnO Try.prog 88 [.v (.agg [.sl (List.map GCell.c e237_.gCells), .sl (List.map cI.i64 e237_.gTrail)]) [], .v (.agg [.int .i64 j238_.gKind, .str j238_.gName, .int .i64 j238_.gNum, .sl (List.map GTerm.c j238_.gKids)]) []] (.v (.tup [.agg [.sl (List.map GCell.c r.1.gCells), .sl (List.map cI.i64 r.1.gTrail)], .int .i64 r.2]) [(0, .app 139), (1, .app 3)]) [] := by
  refine FnO.of Try.func88 (rfl : Try.f88.body = some _) (Nat.le_of_ble_eq_true (by kernel_rfl)) (Nat.le_of_ble_eq_true (by kernel_rfl)) ?_
  intro w0 X0 Fin pv0 pb
  unfold pspec_l13PutTermRaw at h
  refine Wc.seq ?_
  refine Wc.region [] [] [2, 3, 4] [2, 3, 4] [] ⟨[(2, (.ptr 2 0, [])), (3, (.ptr 3 0, [])), (4, (.ptr 4 0, []))], [(2, .cells [.sl (List.map GCell.c e237_.gCells), .sl (List.map cI.i64 e237_.gTrail)] []), (3, .cells [.int .i64 j238_.gKind, .str j238_.gName, .int .i64 j238_.gNum, .sl (List.map GTerm.c j238_.gKids)] []), (4, .cells [.sl (List.map GCell.c []), .sl (List.map cI.i64 [])] [(0, .app 139), (1, .app 3)])], []⟩ _ (by kernel_rfl) .nil ?_
  refine Wc.seq ?_
  refine Wc.seqJ (fun st => ∃ (l239_ : Bool), st = ⟨[(2, (.ptr 2 0, [])), (3, (.ptr 3 0, [])), (4, (.ptr 4 0, [])), (15, (.v (.bool l239_), []))], [(2, .cells [.sl (List.map GCell.c e237_.gCells), .sl (List.map cI.i64 e237_.gTrail)] []), (3, .cells [.int .i64 j238_.gKind, .str j238_.gName, .int .i64 j238_.gNum, .sl (List.map GTerm.c j238_.gKids)] []), (4, .cells [.sl (List.map GCell.c []), .sl (List.map cI.i64 [])] [(0, .app 139), (1, .app 3)])], []⟩ ∧ pspec_l13PutTermRaw_J1 k e237_ j238_ l239_ = some r) ?_ ?_
  · obtain ⟨l247_, h261, h⟩ := obind h
    rcases oif h with ⟨h262, h⟩ | ⟨h262, h⟩
    · refine Wc.region [{}, { r := some (.v (.bool l247_) []) }, {}, { re := some (.bool true) }] [] [2, 3, 4, 15] [2, 3, 4] [] ⟨[(2, (.ptr 2 0, [])), (3, (.ptr 3 0, [])), (4, (.ptr 4 0, [])), (15, (.v (.bool true), []))], [(2, .cells [.sl (List.map GCell.c e237_.gCells), .sl (List.map cI.i64 e237_.gTrail)] []), (3, .cells [.int .i64 j238_.gKind, .str j238_.gName, .int .i64 j238_.gNum, .sl (List.map GTerm.c j238_.gKids)] []), (4, .cells [.sl (List.map GCell.c []), .sl (List.map cI.i64 [])] [(0, .app 139), (1, .app 3)])], []⟩ _ (by kernel_rfl) (.cons (cspec_TermOk h261) (.cons (congrArg AV.bool h262) .nil)) ?_
      exact ⟨_, rfl, h⟩
    · obtain ⟨l248_, h263, h⟩ := obind h
      refine Wc.region [{}, { r := some (.v (.bool l247_) []) }, {}, { re := some (.bool false) }, {}, { r := some (.v (.bool l248_) []) }] [] [2, 3, 4, 15] [2, 3, 4] [] ⟨[(2, (.ptr 2 0, [])), (3, (.ptr 3 0, [])), (4, (.ptr 4 0, [])), (15, (.v (.bool (!l248_)), []))], [(2, .cells [.sl (List.map GCell.c e237_.gCells), .sl (List.map cI.i64 e237_.gTrail)] []), (3, .cells [.int .i64 j238_.gKind, .str j238_.gName, .int .i64 j238_.gNum, .sl (List.map GTerm.c j238_.gKids)] []), (4, .cells [.sl (List.map GCell.c []), .sl (List.map cI.i64 [])] [(0, .app 139), (1, .app 3)])], []⟩ _ (by kernel_rfl) (.cons (cspec_TermOk h261) (.cons (congrArg AV.bool h262) (.cons (cspec_HeapOk h263) .nil))) ?_
      exact ⟨_, rfl, h⟩
  · rintro st ⟨l239_, rfl, h⟩
    rcases oif h with ⟨h252, h⟩ | ⟨h252, h⟩
    · refine Wc.condT h252 (by kernel_rfl) ?_
      refine Wc.seq ?_
      obtain ⟨q240_, h253, h⟩ := obind h
      obtain ⟨s241_, h254, h⟩ := obind h
      refine Wc.region [{}, { r := some (.p [.slx, .slx, .slx, .int .i64 q240_.gPairs] [(0, .ex 139 false (List.map GCell.c q240_.gCells)), (1, .ex 3 false (List.map cI.i64 q240_.gTrail)), (2, .ex 3 false (List.map cI.i64 q240_.gRefs))]) }, { r := some (.v (.agg [.sl (List.map GCell.c s241_.2.gCells), .sl (List.map cI.i64 s241_.2.gTrail)]) [(0, .app 139), (1, .app 3)]), outs := [(0, .p [.slx, .slx, .slx, .int .i64 s241_.1.gPairs] [(0, .ex 139 false (List.map GCell.c s241_.1.gCells)), (1, .ex 3 false (List.map cI.i64 s241_.1.gTrail)), (2, .ex 3 false (List.map cI.i64 s241_.1.gRefs))])] }, { tk := [18] }] [] [4, 5] [4] [] ⟨[(4, (.ptr 4 0, [])), (5, (.v (.int .i64 (-1)), []))], [(4, .cells [.sl (List.map GCell.c s241_.2.gCells), .sl (List.map cI.i64 s241_.2.gTrail)] [(0, .app 139), (1, .app 3)])], []⟩ _ (by kernel_rfl) (.cons (cspec_l13Of h253) (.cons (cspec_l13Heap_heap h254) .nil)) ?_
      refine Wc.ret ?_
      obtain rfl := Option.some.inj h
      exact ⟨.inl rfl, by kernel_rfl, by kernel_rfl⟩
    · refine Wc.condF h252 (by kernel_rfl) ?_
      refine Wc.fix (st' := ⟨[(2, (.ptr 2 0, [])), (3, (.ptr 3 0, [])), (4, (.ptr 4 0, []))], [(2, .cells [.sl (List.map GCell.c e237_.gCells), .sl (List.map cI.i64 e237_.gTrail)] []), (3, .cells [.int .i64 j238_.gKind, .str j238_.gName, .int .i64 j238_.gNum, .sl (List.map GTerm.c j238_.gKids)] []), (4, .cells [.sl (List.map GCell.c []), .sl (List.map cI.i64 [])] [(0, .app 139), (1, .app 3)])], []⟩) [] [2, 3, 4] [2, 3, 4] [] (by kernel_rfl) ?_
      refine Wc.skip ?_
      refine Wc.seq ?_
      obtain ⟨q242_, h255, h⟩ := obind h
      refine Wc.region [{}, { r := some (.p [.slx, .slx, .slx, .int .i64 q242_.gPairs] [(0, .ex 139 false (List.map GCell.c q242_.gCells)), (1, .ex 3 false (List.map cI.i64 q242_.gTrail)), (2, .ex 3 false (List.map cI.i64 q242_.gRefs))]) }] [] [2, 3, 4, 6] [2, 3, 4, 20] [] ⟨[(2, (.ptr 2 0, [])), (3, (.ptr 3 0, [])), (4, (.ptr 4 0, [])), (6, (.ptr 20 0, []))], [(2, .cells [.sl (List.map GCell.c e237_.gCells), .sl (List.map cI.i64 e237_.gTrail)] []), (3, .cells [.int .i64 j238_.gKind, .str j238_.gName, .int .i64 j238_.gNum, .sl (List.map GTerm.c j238_.gKids)] []), (4, .cells [.sl (List.map GCell.c []), .sl (List.map cI.i64 [])] [(0, .app 139), (1, .app 3)]), (20, .cells [.slx, .slx, .slx, .int .i64 q242_.gPairs] [(0, .ex 139 false (List.map GCell.c q242_.gCells)), (1, .ex 3 false (List.map cI.i64 q242_.gTrail)), (2, .ex 3 false (List.map cI.i64 q242_.gRefs))])], []⟩ _ (by kernel_rfl) (.cons (cspec_l13Of h255) .nil) ?_
      refine Wc.seq ?_
      obtain ⟨r243_, h256, h⟩ := obind h
      refine Wc.region [{}, {}, { r := some (.v (.int .i64 r243_.2) []), outs := [(0, .p [.slx, .slx, .slx, .int .i64 r243_.1.gPairs] [(0, .ex 139 false (List.map GCell.c r243_.1.gCells)), (1, .ex 3 false (List.map cI.i64 r243_.1.gTrail)), (2, .ex 3 false (List.map cI.i64 r243_.1.gRefs))])] }] [] [2, 4, 6, 7] [2, 4, 20] [] ⟨[(2, (.ptr 2 0, [])), (4, (.ptr 4 0, [])), (6, (.ptr 20 0, [])), (7, (.v (.int .i64 r243_.2), []))], [(2, .cells [.sl (List.map GCell.c e237_.gCells), .sl (List.map cI.i64 e237_.gTrail)] []), (4, .cells [.sl (List.map GCell.c []), .sl (List.map cI.i64 [])] [(0, .app 139), (1, .app 3)]), (20, .cells [.slx, .slx, .slx, .int .i64 r243_.1.gPairs] [(0, .ex 139 false (List.map GCell.c r243_.1.gCells)), (1, .ex 3 false (List.map cI.i64 r243_.1.gTrail)), (2, .ex 3 false (List.map cI.i64 r243_.1.gRefs))])], []⟩ _ (by kernel_rfl) (.cons (cspec_l13Heap_put h256) .nil) ?_
      refine Wc.seq ?_
      refine Wc.seq ?_
      refine Wc.region [{}, {}, {}, {}, { v := some (.int .i64 (r243_.1.gCells.length : Int)) }] [] [2, 4, 6, 7, 29] [2, 4, 20] [] ⟨[(2, (.ptr 2 0, [])), (4, (.ptr 4 0, [])), (6, (.ptr 20 0, [])), (7, (.v (.int .i64 r243_.2), [])), (29, (.v (.bool (decide ((r243_.1.gCells.length : Int) > 60000))), []))], [(2, .cells [.sl (List.map GCell.c e237_.gCells), .sl (List.map cI.i64 e237_.gTrail)] []), (4, .cells [.sl (List.map GCell.c []), .sl (List.map cI.i64 [])] [(0, .app 139), (1, .app 3)]), (20, .cells [.slx, .slx, .slx, .int .i64 r243_.1.gPairs] [(0, .ex 139 false (List.map GCell.c r243_.1.gCells)), (1, .ex 3 false (List.map cI.i64 r243_.1.gTrail)), (2, .ex 3 false (List.map cI.i64 r243_.1.gRefs))])], []⟩ _ (by kernel_rfl) (.cons (len_obl GCell.c r243_.1.gCells) .nil) ?_
      rcases oif h with ⟨h257, h⟩ | ⟨h257, h⟩
      · refine Wc.condT h257 (by kernel_rfl) ?_
        refine Wc.seq ?_
        obtain ⟨q244_, h258, h⟩ := obind h
        obtain ⟨s245_, h259, h⟩ := obind h
        refine Wc.region [{}, { r := some (.p [.slx, .slx, .slx, .int .i64 q244_.gPairs] [(0, .ex 139 false (List.map GCell.c q244_.gCells)), (1, .ex 3 false (List.map cI.i64 q244_.gTrail)), (2, .ex 3 false (List.map cI.i64 q244_.gRefs))]) }, { r := some (.v (.agg [.sl (List.map GCell.c s245_.2.gCells), .sl (List.map cI.i64 s245_.2.gTrail)]) [(0, .app 139), (1, .app 3)]), outs := [(0, .p [.slx, .slx, .slx, .int .i64 s245_.1.gPairs] [(0, .ex 139 false (List.map GCell.c s245_.1.gCells)), (1, .ex 3 false (List.map cI.i64 s245_.1.gTrail)), (2, .ex 3 false (List.map cI.i64 s245_.1.gRefs))])] }, { tk := [32] }] [] [4, 5] [4] [] ⟨[(4, (.ptr 4 0, [])), (5, (.v (.int .i64 (-1)), []))], [(4, .cells [.sl (List.map GCell.c s245_.2.gCells), .sl (List.map cI.i64 s245_.2.gTrail)] [(0, .app 139), (1, .app 3)])], []⟩ _ (by kernel_rfl) (.cons (cspec_l13Of h258) (.cons (cspec_l13Heap_heap h259) .nil)) ?_
        refine Wc.ret ?_
        obtain rfl := Option.some.inj h
        exact ⟨.inl rfl, by kernel_rfl, by kernel_rfl⟩
      · refine Wc.condF h257 (by kernel_rfl) ?_
        refine Wc.fix (st' := ⟨[(4, (.ptr 4 0, [])), (6, (.ptr 20 0, [])), (7, (.v (.int .i64 r243_.2), []))], [(4, .cells [.sl (List.map GCell.c []), .sl (List.map cI.i64 [])] [(0, .app 139), (1, .app 3)]), (20, .cells [.slx, .slx, .slx, .int .i64 r243_.1.gPairs] [(0, .ex 139 false (List.map GCell.c r243_.1.gCells)), (1, .ex 3 false (List.map cI.i64 r243_.1.gTrail)), (2, .ex 3 false (List.map cI.i64 r243_.1.gRefs))])], []⟩) [] [4, 6, 7] [4, 20] [] (by kernel_rfl) ?_
        refine Wc.skip ?_
        refine Wc.seq ?_
        obtain ⟨s246_, h260, h⟩ := obind h
        refine Wc.region [{}, { r := some (.v (.agg [.sl (List.map GCell.c s246_.2.gCells), .sl (List.map cI.i64 s246_.2.gTrail)]) [(0, .app 139), (1, .app 3)]), outs := [(0, .p [.slx, .slx, .slx, .int .i64 s246_.1.gPairs] [(0, .ex 139 false (List.map GCell.c s246_.1.gCells)), (1, .ex 3 false (List.map cI.i64 s246_.1.gTrail)), (2, .ex 3 false (List.map cI.i64 s246_.1.gRefs))])] }, {}, { tk := [34] }] [] [4, 5] [4] [] ⟨[(4, (.ptr 4 0, [])), (5, (.v (.int .i64 r243_.2), []))], [(4, .cells [.sl (List.map GCell.c s246_.2.gCells), .sl (List.map cI.i64 s246_.2.gTrail)] [(0, .app 139), (1, .app 3)])], []⟩ _ (by kernel_rfl) (.cons (cspec_l13Heap_heap h260) .nil) ?_
        refine Wc.ret ?_
        obtain rfl := Option.some.inj h
        exact ⟨.inl rfl, by kernel_rfl, by kernel_rfl⟩

/-- spec.l34Ints -/
def pspec_l34Ints (k : Nat) (a250_ : List Int) : Option (List Int) :=
  if ([] : List Int).length + a250_.length ≤ 1073741824 then
    some a250_
  else none
theorem cspec_l34Ints {k : Nat} {a250_ : List Int} {r : (List Int)} (h : pspec_l34Ints k a250_ = some r) : FnO Try.prog 133 [.v (.sl (List.map cI.i64 a250_)) []] (.v (.sl (List.map cI.i64 r)) [(0, .app 3)]) [] := by
  refine FnO.of Try.func133 (rfl : Try.f133.body = some _) (Nat.le_of_ble_eq_true (by kernel_rfl)) (Nat.le_of_ble_eq_true (by kernel_rfl)) ?_
  intro w0 X0 Fin pv0 pb
  unfold pspec_l34Ints at h
  refine Wc.seq ?_
  refine Wc.region [] [] [0] [] [] ⟨[(0, (.v (.sl (List.map cI.i64 a250_)), []))], [], []⟩ _ (by kernel_rfl) .nil ?_
  refine Wc.seq ?_
  obtain ⟨h265, h⟩ := oguard h
  refine Wc.region [{ c := some (List.map cI.i64 []) }, {}, { c := some (List.map cI.i64 a250_), tk := [3] }, { tk := [5] }] [] [2] [] [] ⟨[(2, (.v (.sl (List.map cI.i64 a250_)), [(0, .app 3)]))], [], []⟩ _ (by kernel_rfl) (.cons (cl_nil cI.i64) (.cons (app_re0 cI.i64 a250_) (.cons (app_leaf (c := cI.i64) (ys := a250_) cI.i64_leaf) (.cons (app_obl2 (c := cI.i64) (xs := []) (ys := a250_) cI.i64_len h265) .nil)))) ?_
  refine Wc.ret ?_
  obtain rfl := Option.some.inj h
  exact ⟨.inl rfl, by kernel_rfl, by kernel_rfl⟩

/-- spec.l34Cell -/
def pspec_l34Cell (k : Nat) (c253_ : GCell) : Option GCell :=
  (pspec_l34Ints k c253_.gKids).bind fun f254_ =>
  some (GCell.mk c253_.gKind c253_.gName c253_.gNum c253_.gTo f254_)
theorem cspec_l34Cell {k : Nat} {c253_ : GCell} {r : GCell} (h : pspec_l34Cell k c253_ = some r) : FnO Try.prog 150 [.v (.agg [.int .i64 c253_.gKind, .str c253_.gName, .int .i64 c253_.gNum, .int .i64 c253_.gTo, .sl (List.map cI.i64 c253_.gKids)]) []] (.v (.agg [.int .i64 r.gKind, .str r.gName, .int .i64 r.gNum, .int .i64 r.gTo, .sl (List.map cI.i64 r.gKids)]) [(4, .app 3)]) [] := by
  refine FnO.of Try.func150 (rfl : Try.f150.body = some _) (Nat.le_of_ble_eq_true (by kernel_rfl)) (Nat.le_of_ble_eq_true (by kernel_rfl)) ?_
  intro w0 X0 Fin pv0 pb
  unfold pspec_l34Cell at h
  refine Wc.seq ?_
  refine Wc.region [] [] [1, 2] [1, 2] [] ⟨[(1, (.ptr 1 0, [])), (2, (.ptr 2 0, []))], [(1, .cells [.int .i64 c253_.gKind, .str c253_.gName, .int .i64 c253_.gNum, .int .i64 c253_.gTo, .sl (List.map cI.i64 c253_.gKids)] []), (2, .cells [.int .i64 0, .str (bs []), .int .i64 0, .int .i64 0, .sl (List.map cI.i64 [])] [(4, .app 3)])], []⟩ _ (by kernel_rfl) .nil ?_
  refine Wc.seq ?_
  obtain ⟨f254_, h267, h⟩ := obind h
  refine Wc.region [{}, {}, { r := some (.v (.sl (List.map cI.i64 f254_)) [(0, .app 3)]) }, {}, { tk := [5] }] [] [1, 2] [1, 2] [] ⟨[(1, (.ptr 1 0, [])), (2, (.ptr 2 0, []))], [(1, .cells [.int .i64 c253_.gKind, .str c253_.gName, .int .i64 c253_.gNum, .int .i64 c253_.gTo, .sl (List.map cI.i64 f254_)] [(4, .app 3)]), (2, .cells [.int .i64 0, .str (bs []), .int .i64 0, .int .i64 0, .sl (List.map cI.i64 [])] [(4, .app 3)])], []⟩ _ (by kernel_rfl) (.cons (cspec_l34Ints h267) .nil) ?_
  refine Wc.seq ?_
  refine Wc.region [{ md := 1 }, { tk := [7] }] [] [2] [2] [] ⟨[(2, (.ptr 2 0, []))], [(2, .cells [.int .i64 c253_.gKind, .str c253_.gName, .int .i64 c253_.gNum, .int .i64 c253_.gTo, .sl (List.map cI.i64 f254_)] [(4, .app 3)])], []⟩ _ (by kernel_rfl) .nil ?_
  refine Wc.ret ?_
  obtain rfl := Option.some.inj h
  exact ⟨.inl rfl, by kernel_rfl, by kernel_rfl⟩

def pspec_l34Cells_L1 (k : Nat) (d261_ : List GCell) : Nat → (List GCell) → Int → Option (Out (List GCell) (List GCell))
  | 0, _, _ => none
  | m + 1, d262_, b263_ =>
    if (decide (b263_ < (d261_.length : Int))) = true then
      (at' d261_ b263_).bind fun c265_ =>
      (pspec_l34Cell k c265_).bind fun c266_ =>
      if d262_.length + [c266_].length ≤ 1073741824 then
        pspec_l34Cells_L1 k d261_ m (d262_ ++ [c266_]) (wr.i64 (b263_ + 1))
      else none
    else
      some (.done d262_)
/-- spec.l34Cells -/
def pspec_l34Cells (k : Nat) (d261_ : List GCell) : Option (List GCell) :=
  (pspec_l34Cells_L1 k d261_ k [] 0).bind fun out1 => match out1 with
  | .ret r => some r
  | .done d264_ =>
    some d264_
theorem cspec_l34Cells {k : Nat} {d261_ : List GCell} {r : (List GCell)} (h : pspec_l34Cells k d261_ = some r) : FnO Try.prog 132 [.v (.sl (List.map GCell.c d261_)) []] (.v (.sl (List.map GCell.c r)) [(0, .app 139)]) [] := by
  refine FnO.of Try.func132 (rfl : Try.f132.body = some _) (Nat.le_of_ble_eq_true (by kernel_rfl)) (Nat.le_of_ble_eq_true (by kernel_rfl)) ?_
  intro w0 X0 Fin pv0 pb
  unfold pspec_l34Cells at h
  refine Wc.seq ?_
  refine Wc.region [] [] [0] [] [] ⟨[(0, (.v (.sl (List.map GCell.c d261_)), []))], [], []⟩ _ (by kernel_rfl) .nil ?_
  refine Wc.seq ?_
  refine Wc.region [{ c := some (List.map GCell.c []) }, { tk := [5] }] [] [0, 3] [] [] ⟨[(0, (.v (.sl (List.map GCell.c d261_)), [])), (3, (.v (.sl (List.map GCell.c [])), [(0, .app 139)]))], [], []⟩ _ (by kernel_rfl) (.cons (cl_nil GCell.c) .nil) ?_
  refine Wc.seq ?_
  refine Wc.seq ?_
  refine Wc.region [] [] [0, 3, 4] [] [] ⟨[(0, (.v (.sl (List.map GCell.c d261_)), [])), (3, (.v (.sl (List.map GCell.c [])), [(0, .app 139)])), (4, (.v (.int .i64 0), []))], [], []⟩ _ (by kernel_rfl) .nil ?_
  obtain ⟨out1, h273, h⟩ := obind h
  refine Wc.lastJ (fun st => ∃ (d264_ : List GCell), out1 = .done d264_ ∧ st = ⟨[(3, (.v (.sl (List.map GCell.c d264_)), [(0, .app 139)]))], [], []⟩) ?_ ?_
  · refine Wc.block ?_
    refine Wc.loop (fun m st => ∃ (d262_ : List GCell) (b263_ : Int), st = ⟨[(0, (.v (.sl (List.map GCell.c d261_)), [])), (3, (.v (.sl (List.map GCell.c d262_)), [(0, .app 139)])), (4, (.v (.int .i64 b263_), []))], [], []⟩ ∧ pspec_l34Cells_L1 k d261_ m d262_ b263_ = some out1) ?_ k ⟨_, _, rfl, h273⟩
    rintro m st ⟨d262_, b263_, rfl, h273⟩
    cases m with
    | zero => exact (onone h273).elim
    | succ m =>
      refine Wc.seq ?_
      refine Wc.seq ?_
      refine Wc.region [{}, {}, { v := some (.int .i64 (d261_.length : Int)) }] [] [0, 3, 4, 9] [] [] ⟨[(0, (.v (.sl (List.map GCell.c d261_)), [])), (3, (.v (.sl (List.map GCell.c d262_)), [(0, .app 139)])), (4, (.v (.int .i64 b263_), [])), (9, (.v (.bool (decide (b263_ < (d261_.length : Int)))), []))], [], []⟩ _ (by kernel_rfl) (.cons (len_obl GCell.c d261_) .nil) ?_
      rcases oif h273 with ⟨h274, h273⟩ | ⟨h274, h273⟩
      · refine Wc.condT h274 (by kernel_rfl) ?_
        refine Wc.fix (st' := ⟨[(0, (.v (.sl (List.map GCell.c d261_)), [])), (3, (.v (.sl (List.map GCell.c d262_)), [(0, .app 139)])), (4, (.v (.int .i64 b263_), []))], [], []⟩) [] [0, 3, 4] [] [] (by kernel_rfl) ?_
        refine Wc.skip ?_
        refine Wc.seq ?_
        refine Wc.block ?_
        obtain ⟨c265_, h275, h273⟩ := obind h273
        obtain ⟨c266_, h276, h273⟩ := obind h273
        obtain ⟨h277, h273⟩ := oguard h273
        refine Wc.region [{ tk := [3] }, {}, {}, { v := some (.vptr [.int .i64 c265_.gKind, .str c265_.gName, .int .i64 c265_.gNum, .int .i64 c265_.gTo, .sl (List.map cI.i64 c265_.gKids)]) }, {}, { r := some (.v (.agg [.int .i64 c266_.gKind, .str c266_.gName, .int .i64 c266_.gNum, .int .i64 c266_.gTo, .sl (List.map cI.i64 c266_.gKids)]) [(4, .app 3)]) }, { c := some (List.map GCell.c [c266_]) }, { c := some (List.map GCell.c (d262_ ++ [c266_])), tk := [12] }, { tk := [19] }] [] [0, 3, 4] [] [] ⟨[(0, (.v (.sl (List.map GCell.c d261_)), [])), (3, (.v (.sl (List.map GCell.c (d262_ ++ [c266_]))), [(0, .app 139)])), (4, (.v (.int .i64 b263_), []))], [], []⟩ _ (by kernel_rfl) (.cons (at_obl (c := GCell.c) (GCell.c_eq c265_) GCell.c_len h275) (.cons (len_ok 5 [.int .i64 c265_.gKind, .str c265_.gName, .int .i64 c265_.gNum, .int .i64 c265_.gTo, .sl (List.map cI.i64 c265_.gKids)]) (.cons (cspec_l34Cell h276) (.cons (cl_cons (c := GCell.c) (x := c266_) (GCell.c_eq c266_) (cl_nil GCell.c)) (.cons (app_re2 GCell.c d262_ [c266_]) (.cons (app_leaf (c := GCell.c) (ys := [c266_]) GCell.c_leaf) (.cons (app_obl2 (c := GCell.c) (xs := d262_) (ys := [c266_]) GCell.c_len h277) .nil))))))) ?_
        refine Wc.region [] [] [0, 3, 4] [] [] ⟨[(0, (.v (.sl (List.map GCell.c d261_)), [])), (3, (.v (.sl (List.map GCell.c (d262_ ++ [c266_]))), [(0, .app 139)])), (4, (.v (.int .i64 (wr.i64 (b263_ + 1))), []))], [], []⟩ _ (by kernel_rfl) .nil ?_
        exact ⟨_, Nat.lt_succ_self _, _, _, rfl, h273⟩
      · refine Wc.condF h274 (by kernel_rfl) ?_
        refine Wc.fix (st' := ⟨[(3, (.v (.sl (List.map GCell.c d262_)), [(0, .app 139)]))], [], []⟩) [] [3] [] [] (by kernel_rfl) ?_
        refine Wc.exit ?_
        obtain rfl := Option.some.inj h273
        exact ⟨_, rfl, rfl⟩
  · rintro st ⟨d264_, rfl, rfl⟩
    refine Wc.seq ?_
    refine Wc.region [{ tk := [3] }, { tk := [20] }] [] [2] [] [] ⟨[(2, (.v (.sl (List.map GCell.c d264_)), [(0, .app 139)]))], [], []⟩ _ (by kernel_rfl) .nil ?_
    refine Wc.ret ?_
    obtain rfl := Option.some.inj h
    exact ⟨.inl rfl, by kernel_rfl, by kernel_rfl⟩

/-- spec.l34Heap -/
def pspec_l34Heap (k : Nat) (e270_ : GHeap) : Option GHeap :=
  (pspec_l34Cells k e270_.gCells).bind fun g271_ =>
  (pspec_l34Ints k e270_.gTrail).bind fun f272_ =>
  some (GHeap.mk g271_ f272_)
theorem cspec_l34Heap {k : Nat} {e270_ : GHeap} {r : GHeap} (h : pspec_l34Heap k e270_ = some r) : FnO Try.prog 89 [.v (.agg [.sl (List.map GCell.c e270_.gCells), .sl (List.map cI.i64 e270_.gTrail)]) []] (.v (.agg [.sl (List.map GCell.c r.gCells), .sl (List.map cI.i64 r.gTrail)]) [(0, .app 139), (1, .app 3)]) [] := by
  refine FnO.of Try.func89 (rfl : Try.f89.body = some _) (Nat.le_of_ble_eq_true (by kernel_rfl)) (Nat.le_of_ble_eq_true (by kernel_rfl)) ?_
  intro w0 X0 Fin pv0 pb
  unfold pspec_l34Heap at h
  refine Wc.seq ?_
  refine Wc.region [] [] [1, 2] [1, 2] [] ⟨[(1, (.ptr 1 0, [])), (2, (.ptr 2 0, []))], [(1, .cells [.sl (List.map GCell.c e270_.gCells), .sl (List.map cI.i64 e270_.gTrail)] []), (2, .cells [.sl (List.map GCell.c []), .sl (List.map cI.i64 [])] [(0, .app 139), (1, .app 3)])], []⟩ _ (by kernel_rfl) .nil ?_
  refine Wc.seq ?_
  obtain ⟨g271_, h280, h⟩ := obind h
  refine Wc.region [{}, {}, { r := some (.v (.sl (List.map GCell.c g271_)) [(0, .app 139)]) }, {}, { tk := [5] }] [] [1, 2] [1, 2] [] ⟨[(1, (.ptr 1 0, [])), (2, (.ptr 2 0, []))], [(1, .cells [.sl (List.map GCell.c g271_), .sl (List.map cI.i64 e270_.gTrail)] [(0, .app 139)]), (2, .cells [.sl (List.map GCell.c []), .sl (List.map cI.i64 [])] [(0, .app 139), (1, .app 3)])], []⟩ _ (by kernel_rfl) (.cons (cspec_l34Cells h280) .nil) ?_
  refine Wc.seq ?_
  obtain ⟨f272_, h281, h⟩ := obind h
  refine Wc.region [{}, {}, { r := some (.v (.sl (List.map cI.i64 f272_)) [(0, .app 3)]) }, {}, { tk := [9] }] [] [1, 2] [1, 2] [] ⟨[(1, (.ptr 1 0, [])), (2, (.ptr 2 0, []))], [(1, .cells [.sl (List.map GCell.c g271_), .sl (List.map cI.i64 f272_)] [(0, .app 139), (1, .app 3)]), (2, .cells [.sl (List.map GCell.c []), .sl (List.map cI.i64 [])] [(0, .app 139), (1, .app 3)])], []⟩ _ (by kernel_rfl) (.cons (cspec_l34Ints h281) .nil) ?_
  refine Wc.seq ?_
  refine Wc.region [{ md := 1 }, { tk := [11] }] [] [2] [2] [] ⟨[(2, (.ptr 2 0, []))], [(2, .cells [.sl (List.map GCell.c g271_), .sl (List.map cI.i64 f272_)] [(0, .app 139), (1, .app 3)])], []⟩ _ (by kernel_rfl) .nil ?_
  refine Wc.ret ?_
  obtain rfl := Option.some.inj h
  exact ⟨.inl rfl, by kernel_rfl, by kernel_rfl⟩

/-- spec.PutTerm -/
def pspec_PutTerm (k : Nat) (e277_ : GHeap) (j278_ : GTerm) : Option (GHeap × Int) :=
  (pspec_l13PutTermRaw k e277_ j278_).bind fun t279_ =>
  (pspec_l34Heap k (GHeap.mk t279_.1.gCells t279_.1.gTrail)).bind fun e280_ =>
  some (e280_, t279_.2)
theorem cspec_PutTerm {k : Nat} {e277_ : GHeap} {j278_ : GTerm} {r : GHeap × Int} (h : pspec_PutTerm k e277_ j278_ = some r) : FnO Try.prog 35 [.v (.agg [.sl (List.map GCell.c e277_.gCells), .sl (List.map cI.i64 e277_.gTrail)]) [], .v (.agg [.int .i64 j278_.gKind, .str j278_.gName, .int .i64 j278_.gNum, .sl (List.map GTerm.c j278_.gKids)]) []] (.v (.tup [.agg [.sl (List.map GCell.c r.1.gCells), .sl (List.map cI.i64 r.1.gTrail)], .int .i64 r.2]) [(0, .app 139), (1, .app 3)]) [] := by
  refine FnO.of Try.func35 (rfl : Try.f35.body = some _) (Nat.le_of_ble_eq_true (by kernel_rfl)) (Nat.le_of_ble_eq_true (by kernel_rfl)) ?_
  intro w0 X0 Fin pv0 pb
  unfold pspec_PutTerm at h
  refine Wc.seq ?_
  refine Wc.region [] [] [2, 3, 4] [2, 3, 4] [] ⟨[(2, (.ptr 2 0, [])), (3, (.ptr 3 0, [])), (4, (.ptr 4 0, []))], [(2, .cells [.sl (List.map GCell.c e277_.gCells), .sl (List.map cI.i64 e277_.gTrail)] []), (3, .cells [.int .i64 j278_.gKind, .str j278_.gName, .int .i64 j278_.gNum, .sl (List.map GTerm.c j278_.gKids)] []), (4, .cells [.sl (List.map GCell.c []), .sl (List.map cI.i64 [])] [(0, .app 139), (1, .app 3)])], []⟩ _ (by kernel_rfl) .nil ?_
  refine Wc.seq ?_
  obtain ⟨t279_, h284, h⟩ := obind h
  refine Wc.region [{}, {}, { r := some (.v (.tup [.agg [.sl (List.map GCell.c t279_.1.gCells), .sl (List.map cI.i64 t279_.1.gTrail)], .int .i64 t279_.2]) [(0, .app 139), (1, .app 3)]) }, { tk := [11] }, { tk := [8] }, {}, {}, { tk := [12] }] [] [4, 6, 7] [4, 6] [] ⟨[(4, (.ptr 4 0, [])), (6, (.ptr 6 0, [])), (7, (.v (.int .i64 t279_.2), []))], [(4, .cells [.sl (List.map GCell.c []), .sl (List.map cI.i64 [])] [(0, .app 139), (1, .app 3)]), (6, .cells [.sl (List.map GCell.c t279_.1.gCells), .sl (List.map cI.i64 t279_.1.gTrail)] [(0, .app 139), (1, .app 3)])], []⟩ _ (by kernel_rfl) (.cons (cspec_l13PutTermRaw h284) .nil) ?_
  refine Wc.seq ?_
  obtain ⟨e280_, h285, h⟩ := obind h
  refine Wc.region [{}, { r := some (.v (.agg [.sl (List.map GCell.c e280_.gCells), .sl (List.map cI.i64 e280_.gTrail)]) [(0, .app 139), (1, .app 3)]) }, {}, { tk := [15] }] [] [4, 5] [4] [] ⟨[(4, (.ptr 4 0, [])), (5, (.v (.int .i64 t279_.2), []))], [(4, .cells [.sl (List.map GCell.c e280_.gCells), .sl (List.map cI.i64 e280_.gTrail)] [(0, .app 139), (1, .app 3)])], []⟩ _ (by kernel_rfl) (.cons (cspec_l34Heap h285) .nil) ?_
  refine Wc.ret ?_
  obtain rfl := Option.some.inj h
  exact ⟨.inl rfl, by kernel_rfl, by kernel_rfl⟩

def plaws_toTermS_L1 (k : Nat) (rlaws_toTerm : GTerm → Option GTerm) (rlaws_toTermS : (List GTerm) → Option (List GTerm)) (i283_ : List GTerm) : Nat → (List GTerm) → Int → Option (Out (List GTerm) (List GTerm))
  | 0, _, _ => none
  | m + 1, i284_, b285_ =>
    if (decide (b285_ < (i283_.length : Int))) = true then
      (at' i283_ b285_).bind fun j287_ =>
      (rlaws_toTerm j287_).bind fun j288_ =>
      (at' i284_ b285_).bind fun j289_ =>
      plaws_toTermS_L1 k rlaws_toTerm rlaws_toTermS i283_ m (i284_.set ((b285_).toNat) j288_) (wr.i64 (b285_ + 1))
    else
      some (.done i284_)
mutual
/-- laws.toTerm -/
def plaws_toTerm : Nat → GTerm → Option GTerm
  | 0, _ => none
  | k + 1, j281_ =>
    (plaws_toTermS k j281_.gKids).bind fun u282_ =>
    some (GTerm.mk j281_.gKind j281_.gName j281_.gNum u282_)
/-- laws.toTermS -/
def plaws_toTermS : Nat → (List GTerm) → Option (List GTerm)
  | 0, _ => none
  | k + 1, i283_ =>
    if 0 ≤ (i283_.length : Int) ∧ (i283_.length : Int) ≤ 1073741824 then
      (plaws_toTermS_L1 k (plaws_toTerm k) (plaws_toTermS k) i283_ k (List.replicate ((i283_.length : Int)).toNat (GTerm.mk 0 (bs []) 0 [])) 0).bind fun out1 => match out1 with
      | .ret r => some r
      | .done i286_ =>
        some i286_
    else none
end
theorem all_plaws_toTerm : ∀ k : Nat, (∀ {j281_ : GTerm} {r : GTerm}, plaws_toTerm k j281_ = some r → FnO Try.prog 36 [.v (.agg [.int .i64 j281_.gKind, .str j281_.gName, .int .i64 j281_.gNum, .sl (List.map GTerm.c j281_.gKids)]) []] (.v (.agg [.int .i64 r.gKind, .str r.gName, .int .i64 r.gNum, .sl (List.map GTerm.c r.gKids)]) []) []) ∧
    (∀ {i283_ : List GTerm} {r : (List GTerm)}, plaws_toTermS k i283_ = some r → FnO Try.prog 90 [.v (.sl (List.map GTerm.c i283_)) []] (.v (.sl (List.map GTerm.c r)) []) []) := by
  intro k
  induction k with
  | zero =>
    refine ⟨?_, ?_⟩
    · intro j281_ r h
      exact (onone (by rw [plaws_toTerm] at h; exact h)).elim
    · intro i283_ r h
      exact (onone (by rw [plaws_toTermS] at h; exact h)).elim
  | succ k ih =>
    obtain ⟨ih_plaws_toTerm, ih_plaws_toTermS⟩ := ih
    refine ⟨?_, ?_⟩
    · intro j281_ r h
      rw [plaws_toTerm] at h
      refine FnO.of Try.func36 (rfl : Try.f36.body = some _) (Nat.le_of_ble_eq_true (by kernel_rfl)) (Nat.le_of_ble_eq_true (by kernel_rfl)) ?_
      intro w0 X0 Fin pv0 pb
      refine Wc.seq ?_
      refine Wc.region [] [] [1, 2] [1, 2] [] ⟨[(1, (.ptr 1 0, [])), (2, (.ptr 2 0, []))], [(1, .cells [.int .i64 j281_.gKind, .str j281_.gName, .int .i64 j281_.gNum, .sl (List.map GTerm.c j281_.gKids)] []), (2, .cells [.int .i64 0, .str (bs []), .int .i64 0, .sl (List.map GTerm.c [])] [(3, .app 42)])], []⟩ _ (by kernel_rfl) .nil ?_
      refine Wc.seq ?_
      refine Wc.region [] [] [1, 2, 3] [1, 2, 3] [] ⟨[(1, (.ptr 1 0, [])), (2, (.ptr 2 0, [])), (3, (.ptr 3 0, []))], [(1, .cells [.int .i64 j281_.gKind, .str j281_.gName, .int .i64 j281_.gNum, .sl (List.map GTerm.c j281_.gKids)] []), (2, .cells [.int .i64 0, .str (bs []), .int .i64 0, .sl (List.map GTerm.c [])] [(3, .app 42)]), (3, .cells [.int .i64 0, .str (bs []), .int .i64 0, .sl (List.map GTerm.c [])] [(3, .app 42)])], []⟩ _ (by kernel_rfl) .nil ?_
      refine Wc.seq ?_
      refine Wc.region [] [] [1, 2, 3] [1, 2, 3] [] ⟨[(1, (.ptr 1 0, [])), (2, (.ptr 2 0, [])), (3, (.ptr 3 0, []))], [(1, .cells [.int .i64 j281_.gKind, .str j281_.gName, .int .i64 j281_.gNum, .sl (List.map GTerm.c j281_.gKids)] []), (2, .cells [.int .i64 0, .str (bs []), .int .i64 0, .sl (List.map GTerm.c [])] [(3, .app 42)]), (3, .cells [.int .i64 j281_.gKind, .str (bs []), .int .i64 0, .sl (List.map GTerm.c [])] [(3, .app 42)])], []⟩ _ (by kernel_rfl) .nil ?_
      refine Wc.seq ?_
      refine Wc.region [] [] [1, 2, 3] [1, 2, 3] [] ⟨[(1, (.ptr 1 0, [])), (2, (.ptr 2 0, [])), (3, (.ptr 3 0, []))], [(1, .cells [.int .i64 j281_.gKind, .str j281_.gName, .int .i64 j281_.gNum, .sl (List.map GTerm.c j281_.gKids)] []), (2, .cells [.int .i64 0, .str (bs []), .int .i64 0, .sl (List.map GTerm.c [])] [(3, .app 42)]), (3, .cells [.int .i64 j281_.gKind, .str j281_.gName, .int .i64 0, .sl (List.map GTerm.c [])] [(3, .app 42)])], []⟩ _ (by kernel_rfl) .nil ?_
      refine Wc.seq ?_
      refine Wc.region [] [] [1, 2, 3] [1, 2, 3] [] ⟨[(1, (.ptr 1 0, [])), (2, (.ptr 2 0, [])), (3, (.ptr 3 0, []))], [(1, .cells [.int .i64 j281_.gKind, .str j281_.gName, .int .i64 j281_.gNum, .sl (List.map GTerm.c j281_.gKids)] []), (2, .cells [.int .i64 0, .str (bs []), .int .i64 0, .sl (List.map GTerm.c [])] [(3, .app 42)]), (3, .cells [.int .i64 j281_.gKind, .str j281_.gName, .int .i64 j281_.gNum, .sl (List.map GTerm.c [])] [(3, .app 42)])], []⟩ _ (by kernel_rfl) .nil ?_
      refine Wc.seq ?_
      obtain ⟨u282_, h286, h⟩ := obind h
      refine Wc.region [{}, {}, { r := some (.v (.sl (List.map GTerm.c u282_)) []) }] [] [2, 3] [2, 3] [] ⟨[(2, (.ptr 2 0, [])), (3, (.ptr 3 0, []))], [(2, .cells [.int .i64 0, .str (bs []), .int .i64 0, .sl (List.map GTerm.c [])] [(3, .app 42)]), (3, .cells [.int .i64 j281_.gKind, .str j281_.gName, .int .i64 j281_.gNum, .sl (List.map GTerm.c u282_)] [])], []⟩ _ (by kernel_rfl) (.cons (ih_plaws_toTermS h286) .nil) ?_
      refine Wc.seq ?_
      refine Wc.region [] [] [2] [2] [] ⟨[(2, (.ptr 2 0, []))], [(2, .cells [.int .i64 j281_.gKind, .str j281_.gName, .int .i64 j281_.gNum, .sl (List.map GTerm.c u282_)] [])], []⟩ _ (by kernel_rfl) .nil ?_
      refine Wc.ret ?_
      obtain rfl := Option.some.inj h
      exact ⟨.inl rfl, by kernel_rfl, by kernel_rfl⟩
    · intro i283_ r h
      rw [plaws_toTermS] at h
      refine FnO.of Try.func90 (rfl : Try.f90.body = some _) (Nat.le_of_ble_eq_true (by kernel_rfl)) (Nat.le_of_ble_eq_true (by kernel_rfl)) ?_
      intro w0 X0 Fin pv0 pb
      refine Wc.seq ?_
      refine Wc.region [] [] [0] [] [] ⟨[(0, (.v (.sl (List.map GTerm.c i283_)), []))], [], []⟩ _ (by kernel_rfl) .nil ?_
      refine Wc.seq ?_
      obtain ⟨h287, h⟩ := oguard h
      refine Wc.region [{}, { v := some (.int .i64 (i283_.length : Int)) }, { c := some (List.map GTerm.c (List.replicate ((i283_.length : Int)).toNat (GTerm.mk 0 (bs []) 0 []))) }, { tk := [7], fx := [.ag (.t 7 0)] }] [] [0, 3] [] [] ⟨[(0, (.v (.sl (List.map GTerm.c i283_)), [])), (3, (.v (.slx), [(0, .ex 42 false (List.map GTerm.c (List.replicate ((i283_.length : Int)).toNat (GTerm.mk 0 (bs []) 0 []))))]))], [], []⟩ _ (by kernel_rfl) (.cons (len_obl GTerm.c i283_) (.cons (rep_re (c := GTerm.c) (z := (GTerm.mk 0 (bs []) 0 [])) (GTerm.c_eq (GTerm.mk 0 (bs []) 0 [])) ((i283_.length : Int)).toNat) (.cons (ms_obl h287) .nil))) ?_
      refine Wc.seq ?_
      refine Wc.seq ?_
      refine Wc.region [] [] [0, 3, 4] [] [] ⟨[(0, (.v (.sl (List.map GTerm.c i283_)), [])), (3, (.v (.slx), [(0, .ex 42 false (List.map GTerm.c (List.replicate ((i283_.length : Int)).toNat (GTerm.mk 0 (bs []) 0 []))))])), (4, (.v (.int .i64 0), []))], [], []⟩ _ (by kernel_rfl) .nil ?_
      obtain ⟨out1, h288, h⟩ := obind h
      refine Wc.lastJ (fun st => ∃ (i286_ : List GTerm), out1 = .done i286_ ∧ st = ⟨[(3, (.v (.slx), [(0, .ex 42 false (List.map GTerm.c i286_))]))], [], []⟩) ?_ ?_
      · refine Wc.block ?_
        refine Wc.loop (fun m st => ∃ (i284_ : List GTerm) (b285_ : Int), st = ⟨[(0, (.v (.sl (List.map GTerm.c i283_)), [])), (3, (.v (.slx), [(0, .ex 42 false (List.map GTerm.c i284_))])), (4, (.v (.int .i64 b285_), []))], [], []⟩ ∧ plaws_toTermS_L1 k (plaws_toTerm k) (plaws_toTermS k) i283_ m i284_ b285_ = some out1) ?_ k ⟨_, _, rfl, h288⟩
        rintro m st ⟨i284_, b285_, rfl, h288⟩
        cases m with
        | zero => exact (onone h288).elim
        | succ m =>
          refine Wc.seq ?_
          refine Wc.seq ?_
          refine Wc.region [{}, {}, { v := some (.int .i64 (i283_.length : Int)) }] [] [0, 3, 4, 11] [] [] ⟨[(0, (.v (.sl (List.map GTerm.c i283_)), [])), (3, (.v (.slx), [(0, .ex 42 false (List.map GTerm.c i284_))])), (4, (.v (.int .i64 b285_), [])), (11, (.v (.bool (decide (b285_ < (i283_.length : Int)))), []))], [], []⟩ _ (by kernel_rfl) (.cons (len_obl GTerm.c i283_) .nil) ?_
          rcases oif h288 with ⟨h289, h288⟩ | ⟨h289, h288⟩
          · refine Wc.condT h289 (by kernel_rfl) ?_
            refine Wc.fix (st' := ⟨[(0, (.v (.sl (List.map GTerm.c i283_)), [])), (3, (.v (.slx), [(0, .ex 42 false (List.map GTerm.c i284_))])), (4, (.v (.int .i64 b285_), []))], [], []⟩) [] [0, 3, 4] [] [] (by kernel_rfl) ?_
            refine Wc.skip ?_
            refine Wc.seq ?_
            refine Wc.block ?_
            obtain ⟨j287_, h290, h288⟩ := obind h288
            obtain ⟨j288_, h291, h288⟩ := obind h288
            obtain ⟨j289_, h292, h288⟩ := obind h288
            refine Wc.region [{}, {}, {}, {}, { v := some (.vptr [.int .i64 j287_.gKind, .str j287_.gName, .int .i64 j287_.gNum, .sl (List.map GTerm.c j287_.gKids)]) }, {}, { r := some (.v (.agg [.int .i64 j288_.gKind, .str j288_.gName, .int .i64 j288_.gNum, .sl (List.map GTerm.c j288_.gKids)]) []) }, {}, { c := some (List.map GTerm.c (i284_.set ((b285_).toNat) j288_)) }] [] [0, 3, 4] [] [] ⟨[(0, (.v (.sl (List.map GTerm.c i283_)), [])), (3, (.v (.slx), [(0, .ex 42 false (List.map GTerm.c (i284_.set ((b285_).toNat) j288_)))])), (4, (.v (.int .i64 b285_), []))], [], []⟩ _ (by kernel_rfl) (.cons (at_obl (c := GTerm.c) (GTerm.c_eq j287_) GTerm.c_len h290) (.cons (len_ok 4 [.int .i64 j287_.gKind, .str j287_.gName, .int .i64 j287_.gNum, .sl (List.map GTerm.c j287_.gKids)]) (.cons (ih_plaws_toTerm h291) (.cons (ix_obl (c := GTerm.c) GTerm.c_len h292) (.cons (mod_obl (off := 0) (new := [.int .i64 j288_.gKind, .str j288_.gName, .int .i64 j288_.gNum, .sl (List.map GTerm.c j288_.gKids)]) (c := GTerm.c) (GTerm.c_eq j289_) (GTerm.c_eq j288_) (at'_spec h292).2 rfl) (.cons (st_obl (sz := 4) (off := 0) (s := 4) (c := GTerm.c) (GTerm.c_eq j289_) (at'_spec h292).2 rfl (Nat.le_of_ble_eq_true rfl)) .nil)))))) ?_
            refine Wc.region [] [] [0, 3, 4] [] [] ⟨[(0, (.v (.sl (List.map GTerm.c i283_)), [])), (3, (.v (.slx), [(0, .ex 42 false (List.map GTerm.c (i284_.set ((b285_).toNat) j288_)))])), (4, (.v (.int .i64 (wr.i64 (b285_ + 1))), []))], [], []⟩ _ (by kernel_rfl) .nil ?_
            exact ⟨_, Nat.lt_succ_self _, _, _, rfl, h288⟩
          · refine Wc.condF h289 (by kernel_rfl) ?_
            refine Wc.fix (st' := ⟨[(3, (.v (.slx), [(0, .ex 42 false (List.map GTerm.c i284_))]))], [], []⟩) [] [3] [] [] (by kernel_rfl) ?_
            refine Wc.exit ?_
            obtain rfl := Option.some.inj h288
            exact ⟨_, rfl, rfl⟩
      · rintro st ⟨i286_, rfl, rfl⟩
        refine Wc.seq ?_
        refine Wc.region [{ tk := [3] }, { tk := [22] }] [] [2] [] [] ⟨[(2, (.v (.slx), [(0, .ex 42 false (List.map GTerm.c i286_))]))], [], []⟩ _ (by kernel_rfl) .nil ?_
        refine Wc.fix (st' := ⟨[(2, (.v (.sl (List.map GTerm.c i286_)), []))], [], []⟩) [.sh (.t 2 0)] [2] [] [] (by kernel_rfl) ?_
        refine Wc.ret ?_
        obtain rfl := Option.some.inj h
        exact ⟨.inl rfl, by kernel_rfl, by kernel_rfl⟩
theorem claws_toTerm {k : Nat} {j281_ : GTerm} {r : GTerm} (h : plaws_toTerm k j281_ = some r) : FnO Try.prog 36 [.v (.agg [.int .i64 j281_.gKind, .str j281_.gName, .int .i64 j281_.gNum, .sl (List.map GTerm.c j281_.gKids)]) []] (.v (.agg [.int .i64 r.gKind, .str r.gName, .int .i64 r.gNum, .sl (List.map GTerm.c r.gKids)]) []) [] := (all_plaws_toTerm k).1 h
theorem claws_toTermS {k : Nat} {i283_ : List GTerm} {r : (List GTerm)} (h : plaws_toTermS k i283_ = some r) : FnO Try.prog 90 [.v (.sl (List.map GTerm.c i283_)) []] (.v (.sl (List.map GTerm.c r)) []) [] := (all_plaws_toTerm k).2 h

/-- impl.within -/
def pimpl_within (k : Nat) (b290_ : Int) (b291_ : Int) (b292_ : Int) : Option Bool :=
  if (decide (b290_ ≥ b291_)) = true then
    some (decide (b290_ ≤ b292_))
  else
    some false
theorem cimpl_within {k : Nat} {b290_ : Int} {b291_ : Int} {b292_ : Int} {r : Bool} (h : pimpl_within k b290_ b291_ b292_ = some r) : FnO Try.prog 114 [.v (.int .i64 b290_) [], .v (.int .i64 b291_) [], .v (.int .i64 b292_) []] (.v (.bool r) []) [] := by
  refine FnO.of Try.func114 (rfl : Try.f114.body = some _) (Nat.le_of_ble_eq_true (by kernel_rfl)) (Nat.le_of_ble_eq_true (by kernel_rfl)) ?_
  intro w0 X0 Fin pv0 pb
  unfold pimpl_within at h
  refine Wc.seq ?_
  refine Wc.region [] [] [0, 1, 2] [] [] ⟨[(0, (.v (.int .i64 b290_), [])), (1, (.v (.int .i64 b291_), [])), (2, (.v (.int .i64 b292_), []))], [], []⟩ _ (by kernel_rfl) .nil ?_
  refine Wc.seq ?_
  rcases oif h with ⟨h293, h⟩ | ⟨h293, h⟩
  · refine Wc.region [{}, {}, {}, { re := some (.bool true) }] [] [6] [] [] ⟨[(6, (.v (.bool (decide (b290_ ≤ b292_))), []))], [], []⟩ _ (by kernel_rfl) (.cons (congrArg AV.bool h293) .nil) ?_
    refine Wc.ret ?_
    obtain rfl := Option.some.inj h
    exact ⟨.inl rfl, by kernel_rfl, by kernel_rfl⟩
  · refine Wc.region [{}, {}, {}, { re := some (.bool false) }] [] [6] [] [] ⟨[(6, (.v (.bool false), []))], [], []⟩ _ (by kernel_rfl) (.cons (congrArg AV.bool h293) .nil) ?_
    refine Wc.ret ?_
    obtain rfl := Option.some.inj h
    exact ⟨.inl rfl, by kernel_rfl, by kernel_rfl⟩

/-- impl.isCell -/
def pimpl_isCell (k : Nat) (e293_ : GHeap) (b294_ : Int) : Option Bool :=
  (pimpl_within k b294_ 0 (wr.i64 ((e293_.gCells.length : Int) - 1))).bind fun l295_ =>
  some l295_
theorem cimpl_isCell {k : Nat} {e293_ : GHeap} {b294_ : Int} {r : Bool} (h : pimpl_isCell k e293_ b294_ = some r) : FnO Try.prog 115 [.v (.agg [.sl (List.map GCell.c e293_.gCells), .sl (List.map cI.i64 e293_.gTrail)]) [], .v (.int .i64 b294_) []] (.v (.bool r) []) [] := by
  refine FnO.of Try.func115 (rfl : Try.f115.body = some _) (Nat.le_of_ble_eq_true (by kernel_rfl)) (Nat.le_of_ble_eq_true (by kernel_rfl)) ?_
  intro w0 X0 Fin pv0 pb
  unfold pimpl_isCell at h
  refine Wc.seq ?_
  refine Wc.region [] [] [1, 2] [2] [] ⟨[(1, (.v (.int .i64 b294_), [])), (2, (.ptr 2 0, []))], [(2, .cells [.sl (List.map GCell.c e293_.gCells), .sl (List.map cI.i64 e293_.gTrail)] [])], []⟩ _ (by kernel_rfl) .nil ?_
  refine Wc.seq ?_
  obtain ⟨l295_, h294, h⟩ := obind h
  refine Wc.region [{}, {}, {}, { v := some (.int .i64 (e293_.gCells.length : Int)) }, {}, { r := some (.v (.bool l295_) []) }] [] [4] [] [] ⟨[(4, (.v (.bool l295_), []))], [], []⟩ _ (by kernel_rfl) (.cons (len_obl GCell.c e293_.gCells) (.cons (cimpl_within h294) .nil)) ?_
  refine Wc.ret ?_
  obtain rfl := Option.some.inj h
  exact ⟨.inl rfl, by kernel_rfl, by kernel_rfl⟩

def pimpl_follow_L1 (k : Nat) (e296_ : GHeap) : Nat → Int → Int → Option (Out Int Unit)
  | 0, _, _ => none
  | m + 1, b298_, b299_ =>
    if (decide (b299_ < (wr.i64 ((e296_.gCells.length : Int) + 1)))) = true then
      (pimpl_isCell k e296_ b298_).bind fun l300_ =>
      if (!l300_) = true then
        some (.ret (-1))
      else
        (at' e296_.gCells b298_).bind fun c301_ =>
        if (c301_.gKind != 1) = true then
          some (.ret b298_)
        else
          if (decide (c301_.gTo < 0)) = true then
            some (.ret b298_)
          else
            (at' e296_.gCells b298_).bind fun c302_ =>
            pimpl_follow_L1 k e296_ m c302_.gTo (wr.i64 (b299_ + 1))
    else
      some (.done ())
/-- impl.follow -/
def pimpl_follow (k : Nat) (e296_ : GHeap) (b297_ : Int) : Option Int :=
  (pimpl_follow_L1 k e296_ k b297_ 0).bind fun out1 => match out1 with
  | .ret r => some r
  | .done () =>
    some (-1)
theorem cimpl_follow {k : Nat} {e296_ : GHeap} {b297_ : Int} {r : Int} (h : pimpl_follow k e296_ b297_ = some r) : FnO Try.prog 116 [.v (.agg [.sl (List.map GCell.c e296_.gCells), .sl (List.map cI.i64 e296_.gTrail)]) [], .v (.int .i64 b297_) []] (.v (.int .i64 r) []) [] := by
  refine FnO.of Try.func116 (rfl : Try.f116.body = some _) (Nat.le_of_ble_eq_true (by kernel_rfl)) (Nat.le_of_ble_eq_true (by kernel_rfl)) ?_
  intro w0 X0 Fin pv0 pb
  unfold pimpl_follow at h
  refine Wc.seq ?_
  refine Wc.region [] [] [1, 2] [2] [] ⟨[(1, (.v (.int .i64 b297_), [])), (2, (.ptr 2 0, []))], [(2, .cells [.sl (List.map GCell.c e296_.gCells), .sl (List.map cI.i64 e296_.gTrail)] [])], []⟩ _ (by kernel_rfl) .nil ?_
  refine Wc.seq ?_
  refine Wc.seq ?_
  refine Wc.region [{}, {}, { v := some (.int .i64 (e296_.gCells.length : Int)) }] [] [1, 2, 9, 10] [2] [] ⟨[(1, (.v (.int .i64 b297_), [])), (2, (.ptr 2 0, [])), (9, (.v (.int .i64 (wr.i64 ((e296_.gCells.length : Int) + 1))), [])), (10, (.v (.int .i64 0), []))], [(2, .cells [.sl (List.map GCell.c e296_.gCells), .sl (List.map cI.i64 e296_.gTrail)] [])], []⟩ _ (by kernel_rfl) (.cons (len_obl GCell.c e296_.gCells) .nil) ?_
  obtain ⟨out1, h295, h⟩ := obind h
  refine Wc.lastJ (fun st => out1 = .done () ∧ st = ⟨[], [], []⟩) ?_ ?_
  · refine Wc.block ?_
    refine Wc.loop (fun m st => ∃ (b298_ : Int) (b299_ : Int), st = ⟨[(1, (.v (.int .i64 b298_), [])), (2, (.ptr 2 0, [])), (9, (.v (.int .i64 (wr.i64 ((e296_.gCells.length : Int) + 1))), [])), (10, (.v (.int .i64 b299_), []))], [(2, .cells [.sl (List.map GCell.c e296_.gCells), .sl (List.map cI.i64 e296_.gTrail)] [])], []⟩ ∧ pimpl_follow_L1 k e296_ m b298_ b299_ = some out1) ?_ k ⟨_, _, rfl, h295⟩
    rintro m st ⟨b298_, b299_, rfl, h295⟩
    cases m with
    | zero => exact (onone h295).elim
    | succ m =>
      refine Wc.seq ?_
      refine Wc.region [] [] [1, 2, 9, 10, 11] [2] [] ⟨[(1, (.v (.int .i64 b298_), [])), (2, (.ptr 2 0, [])), (9, (.v (.int .i64 (wr.i64 ((e296_.gCells.length : Int) + 1))), [])), (10, (.v (.int .i64 b299_), [])), (11, (.v (.bool (decide (b299_ < (wr.i64 ((e296_.gCells.length : Int) + 1))))), []))], [(2, .cells [.sl (List.map GCell.c e296_.gCells), .sl (List.map cI.i64 e296_.gTrail)] [])], []⟩ _ (by kernel_rfl) .nil ?_
      refine Wc.seq ?_
      rcases oif h295 with ⟨h296, h295⟩ | ⟨h296, h295⟩
      · refine Wc.condT h296 (by kernel_rfl) ?_
        refine Wc.fix (st' := ⟨[(1, (.v (.int .i64 b298_), [])), (2, (.ptr 2 0, [])), (9, (.v (.int .i64 (wr.i64 ((e296_.gCells.length : Int) + 1))), [])), (10, (.v (.int .i64 b299_), []))], [(2, .cells [.sl (List.map GCell.c e296_.gCells), .sl (List.map cI.i64 e296_.gTrail)] [])], []⟩) [] [1, 2, 9, 10] [2] [] (by kernel_rfl) ?_
        refine Wc.skip ?_
        refine Wc.seq ?_
        refine Wc.block ?_
        refine Wc.seq ?_
        refine Wc.seq ?_
        obtain ⟨l300_, h297, h295⟩ := obind h295
        refine Wc.region [{}, {}, { r := some (.v (.bool l300_) []) }] [] [1, 2, 9, 10, 15] [2] [] ⟨[(1, (.v (.int .i64 b298_), [])), (2, (.ptr 2 0, [])), (9, (.v (.int .i64 (wr.i64 ((e296_.gCells.length : Int) + 1))), [])), (10, (.v (.int .i64 b299_), [])), (15, (.v (.bool (!l300_)), []))], [(2, .cells [.sl (List.map GCell.c e296_.gCells), .sl (List.map cI.i64 e296_.gTrail)] [])], []⟩ _ (by kernel_rfl) (.cons (cimpl_isCell h297) .nil) ?_
        rcases oif h295 with ⟨h298, h295⟩ | ⟨h298, h295⟩
        · refine Wc.condT h298 (by kernel_rfl) ?_
          refine Wc.seq ?_
          refine Wc.region [] [] [4] [] [] ⟨[(4, (.v (.int .i64 (-1)), []))], [], []⟩ _ (by kernel_rfl) .nil ?_
          refine Wc.ret ?_
          obtain rfl := Option.some.inj h295
          obtain rfl := Option.some.inj h
          exact ⟨.inl rfl, by kernel_rfl, by kernel_rfl⟩
        · refine Wc.condF h298 (by kernel_rfl) ?_
          refine Wc.fix (st' := ⟨[(1, (.v (.int .i64 b298_), [])), (2, (.ptr 2 0, [])), (9, (.v (.int .i64 (wr.i64 ((e296_.gCells.length : Int) + 1))), [])), (10, (.v (.int .i64 b299_), []))], [(2, .cells [.sl (List.map GCell.c e296_.gCells), .sl (List.map cI.i64 e296_.gTrail)] [])], []⟩) [] [1, 2, 9, 10] [2] [] (by kernel_rfl) ?_
          refine Wc.skip ?_
          refine Wc.seq ?_
          refine Wc.seq ?_
          obtain ⟨c301_, h299, h295⟩ := obind h295
          refine Wc.region [{}, {}, {}, { v := some (.vptr [.int .i64 c301_.gKind, .str c301_.gName, .int .i64 c301_.gNum, .int .i64 c301_.gTo, .sl (List.map cI.i64 c301_.gKids)]) }] [] [1, 2, 5, 9, 10] [2, 5] [] ⟨[(1, (.v (.int .i64 b298_), [])), (2, (.ptr 2 0, [])), (5, (.ptr 5 0, [])), (9, (.v (.int .i64 (wr.i64 ((e296_.gCells.length : Int) + 1))), [])), (10, (.v (.int .i64 b299_), []))], [(2, .cells [.sl (List.map GCell.c e296_.gCells), .sl (List.map cI.i64 e296_.gTrail)] []), (5, .cells [.int .i64 c301_.gKind, .str c301_.gName, .int .i64 c301_.gNum, .int .i64 c301_.gTo, .sl (List.map cI.i64 c301_.gKids)] [])], []⟩ _ (by kernel_rfl) (.cons (at_obl (c := GCell.c) (GCell.c_eq c301_) GCell.c_len h299) (.cons (len_ok 5 [.int .i64 c301_.gKind, .str c301_.gName, .int .i64 c301_.gNum, .int .i64 c301_.gTo, .sl (List.map cI.i64 c301_.gKids)]) .nil)) ?_
          refine Wc.seq ?_
          rcases oif h295 with ⟨h300, h295⟩ | ⟨h300, h295⟩
          · refine Wc.region [{}, {}, {}, { re := some (.bool true) }] [] [1, 2, 9, 10, 28] [2] [] ⟨[(1, (.v (.int .i64 b298_), [])), (2, (.ptr 2 0, [])), (9, (.v (.int .i64 (wr.i64 ((e296_.gCells.length : Int) + 1))), [])), (10, (.v (.int .i64 b299_), [])), (28, (.v (.bool true), []))], [(2, .cells [.sl (List.map GCell.c e296_.gCells), .sl (List.map cI.i64 e296_.gTrail)] [])], []⟩ _ (by kernel_rfl) (.cons (congrArg AV.bool h300) .nil) ?_
            refine Wc.condT rfl (by kernel_rfl) ?_
            refine Wc.seq ?_
            refine Wc.region [] [] [4] [] [] ⟨[(4, (.v (.int .i64 b298_), []))], [], []⟩ _ (by kernel_rfl) .nil ?_
            refine Wc.ret ?_
            obtain rfl := Option.some.inj h295
            obtain rfl := Option.some.inj h
            exact ⟨.inl rfl, by kernel_rfl, by kernel_rfl⟩
          · refine Wc.region [{}, {}, {}, { re := some (.bool false) }] [] [1, 2, 9, 10, 28] [2] [] ⟨[(1, (.v (.int .i64 b298_), [])), (2, (.ptr 2 0, [])), (9, (.v (.int .i64 (wr.i64 ((e296_.gCells.length : Int) + 1))), [])), (10, (.v (.int .i64 b299_), [])), (28, (.v (.bool (decide (c301_.gTo < 0))), []))], [(2, .cells [.sl (List.map GCell.c e296_.gCells), .sl (List.map cI.i64 e296_.gTrail)] [])], []⟩ _ (by kernel_rfl) (.cons (congrArg AV.bool h300) .nil) ?_
            rcases oif h295 with ⟨h301, h295⟩ | ⟨h301, h295⟩
            · refine Wc.condT h301 (by kernel_rfl) ?_
              refine Wc.seq ?_
              refine Wc.region [] [] [4] [] [] ⟨[(4, (.v (.int .i64 b298_), []))], [], []⟩ _ (by kernel_rfl) .nil ?_
              refine Wc.ret ?_
              obtain rfl := Option.some.inj h295
              obtain rfl := Option.some.inj h
              exact ⟨.inl rfl, by kernel_rfl, by kernel_rfl⟩
            · refine Wc.condF h301 (by kernel_rfl) ?_
              refine Wc.fix (st' := ⟨[(1, (.v (.int .i64 b298_), [])), (2, (.ptr 2 0, [])), (9, (.v (.int .i64 (wr.i64 ((e296_.gCells.length : Int) + 1))), [])), (10, (.v (.int .i64 b299_), []))], [(2, .cells [.sl (List.map GCell.c e296_.gCells), .sl (List.map cI.i64 e296_.gTrail)] [])], []⟩) [] [1, 2, 9, 10] [2] [] (by kernel_rfl) ?_
              refine Wc.skip ?_
              obtain ⟨c302_, h302, h295⟩ := obind h295
              refine Wc.region [{}, {}, {}, { v := some (.vptr [.int .i64 c302_.gKind, .str c302_.gName, .int .i64 c302_.gNum, .int .i64 c302_.gTo, .sl (List.map cI.i64 c302_.gKids)]) }] [] [1, 2, 9, 10] [2] [] ⟨[(1, (.v (.int .i64 c302_.gTo), [])), (2, (.ptr 2 0, [])), (9, (.v (.int .i64 (wr.i64 ((e296_.gCells.length : Int) + 1))), [])), (10, (.v (.int .i64 b299_), []))], [(2, .cells [.sl (List.map GCell.c e296_.gCells), .sl (List.map cI.i64 e296_.gTrail)] [])], []⟩ _ (by kernel_rfl) (.cons (at_obl (c := GCell.c) (GCell.c_eq c302_) GCell.c_len h302) (.cons (len_ok 1 [.int .i64 c302_.gTo, .sl (List.map cI.i64 c302_.gKids)]) .nil)) ?_
              refine Wc.region [] [] [1, 2, 9, 10] [2] [] ⟨[(1, (.v (.int .i64 c302_.gTo), [])), (2, (.ptr 2 0, [])), (9, (.v (.int .i64 (wr.i64 ((e296_.gCells.length : Int) + 1))), [])), (10, (.v (.int .i64 (wr.i64 (b299_ + 1))), []))], [(2, .cells [.sl (List.map GCell.c e296_.gCells), .sl (List.map cI.i64 e296_.gTrail)] [])], []⟩ _ (by kernel_rfl) .nil ?_
              exact ⟨_, Nat.lt_succ_self _, _, _, rfl, h295⟩
      · refine Wc.condF h296 (by kernel_rfl) ?_
        refine Wc.fix (st' := ⟨[], [], []⟩) [] [] [] [] (by kernel_rfl) ?_
        refine Wc.exit ?_
        obtain rfl := Option.some.inj h295
        exact ⟨rfl, rfl⟩
  · rintro st ⟨rfl, rfl⟩
    refine Wc.seq ?_
    refine Wc.region [] [] [4] [] [] ⟨[(4, (.v (.int .i64 (-1)), []))], [], []⟩ _ (by kernel_rfl) .nil ?_
    refine Wc.ret ?_
    obtain rfl := Option.some.inj h
    exact ⟨.inl rfl, by kernel_rfl, by kernel_rfl⟩

def pimpl_HeapOk_L3 (k : Nat) (c306_ : GCell) (e303_ : GHeap) : Nat → Int → Option (Out Bool Unit)
  | 0, _ => none
  | m + 1, b309_ =>
    if (decide (b309_ < (c306_.gKids.length : Int))) = true then
      (at' c306_.gKids b309_).bind fun b310_ =>
      (pimpl_isCell k e303_ b310_).bind fun l311_ =>
      if (!l311_) = true then
        some (.ret false)
      else
        pimpl_HeapOk_L3 k c306_ e303_ m (wr.i64 (b309_ + 1))
    else
      some (.done ())
def pimpl_HeapOk_J2 (k : Nat) (bk_ : Int → (List (Int × Int)) → Option (Out Bool Unit)) (c306_ : GCell) (e303_ : GHeap) (b304_ : Int) (v308_ : List (Int × Int)) : Option (Out Bool Unit) :=
  (pimpl_HeapOk_L3 k c306_ e303_ k 0).bind fun out3 => match out3 with
  | .ret r => some (.ret r)
  | .done () =>
    bk_ (wr.i64 (b304_ + 1)) v308_
def pimpl_HeapOk_L1 (k : Nat) (e303_ : GHeap) : Nat → Int → (List (Int × Int)) → Option (Out Bool Unit)
  | 0, _, _ => none
  | m + 1, b304_, v305_ =>
    if (decide (b304_ < (e303_.gCells.length : Int))) = true then
      (at' e303_.gCells b304_).bind fun c306_ =>
      (pimpl_within k c306_.gKind 1 4).bind fun l307_ =>
      if (!l307_) = true then
        some (.ret false)
      else
        if (c306_.gKind == 1) = true then
          if (decide ((mget (mset v305_ c306_.gNum (wr.i64 ((mget v305_ c306_.gNum) + 1))) c306_.gNum) > 1)) = true then
            some (.ret false)
          else
            if (c306_.gTo != (-1)) = true then
              (pimpl_isCell k e303_ c306_.gTo).bind fun l312_ =>
              if (!l312_) = true then
                some (.ret false)
              else
                (pimpl_follow k e303_ b304_).bind fun b313_ =>
                if (decide (b313_ < 0)) = true then
                  some (.ret false)
                else
                  pimpl_HeapOk_J2 k (pimpl_HeapOk_L1 k e303_ m) c306_ e303_ b304_ (mset v305_ c306_.gNum (wr.i64 ((mget v305_ c306_.gNum) + 1)))
            else
              (pimpl_follow k e303_ b304_).bind fun b312_ =>
              if (decide (b312_ < 0)) = true then
                some (.ret false)
              else
                pimpl_HeapOk_J2 k (pimpl_HeapOk_L1 k e303_ m) c306_ e303_ b304_ (mset v305_ c306_.gNum (wr.i64 ((mget v305_ c306_.gNum) + 1)))
        else
          pimpl_HeapOk_J2 k (pimpl_HeapOk_L1 k e303_ m) c306_ e303_ b304_ v305_
    else
      some (.done ())
def pimpl_HeapOk_L4 (k : Nat) (e303_ : GHeap) : Nat → Int → Option (Out Bool Unit)
  | 0, _ => none
  | m + 1, b314_ =>
    if (decide (b314_ < (e303_.gTrail.length : Int))) = true then
      (at' e303_.gTrail b314_).bind fun b315_ =>
      (pimpl_isCell k e303_ b315_).bind fun l316_ =>
      if (!l316_) = true then
        some (.ret false)
      else
        (at' e303_.gCells b315_).bind fun c317_ =>
        if (c317_.gKind != 1) = true then
          some (.ret false)
        else
          pimpl_HeapOk_L4 k e303_ m (wr.i64 (b314_ + 1))
    else
      some (.done ())
/-- impl.HeapOk -/
def pimpl_HeapOk (k : Nat) (e303_ : GHeap) : Option Bool :=
  if (decide ((e303_.gCells.length : Int) > 60000)) = true then
    some false
  else
    (pimpl_HeapOk_L1 k e303_ k 0 []).bind fun out1 => match out1 with
    | .ret r => some r
    | .done () =>
      (pimpl_HeapOk_L4 k e303_ k 0).bind fun out4 => match out4 with
      | .ret r => some r
      | .done () =>
        some true
set_option maxHeartbeats 4000000 in
theorem cimpl_HeapOk {k : Nat} {e303_ : GHeap} {r : Bool} (h : pimpl_HeapOk k e303_ = some r) : FnO Try.prog 69 [.v (.agg [.sl (List.map GCell.c e303_.gCells), .sl (List.map cI.i64 e303_.gTrail)]) []] (.v (.bool r) []) [] := by
  refine FnO.of Try.func69 (rfl : Try.f69.body = some _) (Nat.le_of_ble_eq_true (by kernel_rfl)) (Nat.le_of_ble_eq_true (by kernel_rfl)) ?_
  intro w0 X0 Fin pv0 pb
  unfold pimpl_HeapOk at h
  refine Wc.seq ?_
  refine Wc.region [] [] [1] [1] [] ⟨[(1, (.ptr 1 0, []))], [(1, .cells [.sl (List.map GCell.c e303_.gCells), .sl (List.map cI.i64 e303_.gTrail)] [])], []⟩ _ (by kernel_rfl) .nil ?_
  refine Wc.seq ?_
  refine Wc.seq ?_
  refine Wc.region [{}, {}, { v := some (.int .i64 (e303_.gCells.length : Int)) }] [] [1, 13] [1] [] ⟨[(1, (.ptr 1 0, [])), (13, (.v (.bool (decide ((e303_.gCells.length : Int) > 60000))), []))], [(1, .cells [.sl (List.map GCell.c e303_.gCells), .sl (List.map cI.i64 e303_.gTrail)] [])], []⟩ _ (by kernel_rfl) (.cons (len_obl GCell.c e303_.gCells) .nil) ?_
  rcases oif h with ⟨h303, h⟩ | ⟨h303, h⟩
  · refine Wc.condT h303 (by kernel_rfl) ?_
    refine Wc.seq ?_
    refine Wc.region [] [] [2] [] [] ⟨[(2, (.v (.bool false), []))], [], []⟩ _ (by kernel_rfl) .nil ?_
    refine Wc.ret ?_
    obtain rfl := Option.some.inj h
    exact ⟨.inl rfl, by kernel_rfl, by kernel_rfl⟩
  · refine Wc.condF h303 (by kernel_rfl) ?_
    refine Wc.fix (st' := ⟨[(1, (.ptr 1 0, []))], [(1, .cells [.sl (List.map GCell.c e303_.gCells), .sl (List.map cI.i64 e303_.gTrail)] [])], []⟩) [] [1] [1] [] (by kernel_rfl) ?_
    refine Wc.skip ?_
    refine Wc.seq ?_
    refine Wc.region [] [] [1, 3] [1, 14] [] ⟨[(1, (.ptr 1 0, [])), (3, (.mp 14, []))], [(1, .cells [.sl (List.map GCell.c e303_.gCells), .sl (List.map cI.i64 e303_.gTrail)] []), (14, .map (mgk []) (mgv []))], []⟩ _ (by kernel_rfl) .nil ?_
    refine Wc.seq ?_
    refine Wc.seq ?_
    refine Wc.region [{}, {}, { v := some (.int .i64 (e303_.gCells.length : Int)) }] [] [1, 3, 16, 17, 18] [1, 14] [] ⟨[(1, (.ptr 1 0, [])), (3, (.mp 14, [])), (16, (.v (.sl (List.map GCell.c e303_.gCells)), [])), (17, (.v (.int .i64 (e303_.gCells.length : Int)), [])), (18, (.v (.int .i64 0), []))], [(1, .cells [.sl (List.map GCell.c e303_.gCells), .sl (List.map cI.i64 e303_.gTrail)] []), (14, .map (mgk []) (mgv []))], []⟩ _ (by kernel_rfl) (.cons (len_obl GCell.c e303_.gCells) .nil) ?_
    obtain ⟨out1, h304, h⟩ := obind h
    refine Wc.lastJ (fun st => out1 = .done () ∧ st = ⟨[(1, (.ptr 1 0, []))], [(1, .cells [.sl (List.map GCell.c e303_.gCells), .sl (List.map cI.i64 e303_.gTrail)] [])], []⟩) ?_ ?_
    · refine Wc.block ?_
      refine Wc.loop (fun m st => ∃ (b304_ : Int) (v305_ : List (Int × Int)), st = ⟨[(1, (.ptr 1 0, [])), (3, (.mp 14, [])), (16, (.v (.sl (List.map GCell.c e303_.gCells)), [])), (17, (.v (.int .i64 (e303_.gCells.length : Int)), [])), (18, (.v (.int .i64 b304_), []))], [(1, .cells [.sl (List.map GCell.c e303_.gCells), .sl (List.map cI.i64 e303_.gTrail)] []), (14, .map (mgk v305_) (mgv v305_))], []⟩ ∧ pimpl_HeapOk_L1 k e303_ m b304_ v305_ = some out1) ?_ k ⟨_, _, rfl, h304⟩
      rintro m st ⟨b304_, v305_, rfl, h304⟩
      cases m with
      | zero => exact (onone h304).elim
      | succ m =>
        refine Wc.seq ?_
        refine Wc.region [] [] [1, 3, 16, 17, 18, 19] [1, 14] [] ⟨[(1, (.ptr 1 0, [])), (3, (.mp 14, [])), (16, (.v (.sl (List.map GCell.c e303_.gCells)), [])), (17, (.v (.int .i64 (e303_.gCells.length : Int)), [])), (18, (.v (.int .i64 b304_), [])), (19, (.v (.bool (decide (b304_ < (e303_.gCells.length : Int)))), []))], [(1, .cells [.sl (List.map GCell.c e303_.gCells), .sl (List.map cI.i64 e303_.gTrail)] []), (14, .map (mgk v305_) (mgv v305_))], []⟩ _ (by kernel_rfl) .nil ?_
        refine Wc.seq ?_
        rcases oif h304 with ⟨h305, h304⟩ | ⟨h305, h304⟩
        · refine Wc.condT h305 (by kernel_rfl) ?_
          refine Wc.fix (st' := ⟨[(1, (.ptr 1 0, [])), (3, (.mp 14, [])), (16, (.v (.sl (List.map GCell.c e303_.gCells)), [])), (17, (.v (.int .i64 (e303_.gCells.length : Int)), [])), (18, (.v (.int .i64 b304_), []))], [(1, .cells [.sl (List.map GCell.c e303_.gCells), .sl (List.map cI.i64 e303_.gTrail)] []), (14, .map (mgk v305_) (mgv v305_))], []⟩) [] [1, 3, 16, 17, 18] [1, 14] [] (by kernel_rfl) ?_
          refine Wc.skip ?_
          refine Wc.seq ?_
          refine Wc.block ?_
          refine Wc.seq ?_
          obtain ⟨c306_, h306, h304⟩ := obind h304
          refine Wc.region [{}, { v := some (.vptr [.int .i64 c306_.gKind, .str c306_.gName, .int .i64 c306_.gNum, .int .i64 c306_.gTo, .sl (List.map cI.i64 c306_.gKids)]) }] [] [1, 3, 4, 5, 16, 17, 18] [1, 5, 14] [] ⟨[(1, (.ptr 1 0, [])), (3, (.mp 14, [])), (4, (.v (.int .i64 b304_), [])), (5, (.ptr 5 0, [])), (16, (.v (.sl (List.map GCell.c e303_.gCells)), [])), (17, (.v (.int .i64 (e303_.gCells.length : Int)), [])), (18, (.v (.int .i64 b304_), []))], [(1, .cells [.sl (List.map GCell.c e303_.gCells), .sl (List.map cI.i64 e303_.gTrail)] []), (5, .cells [.int .i64 c306_.gKind, .str c306_.gName, .int .i64 c306_.gNum, .int .i64 c306_.gTo, .sl (List.map cI.i64 c306_.gKids)] []), (14, .map (mgk v305_) (mgv v305_))], []⟩ _ (by kernel_rfl) (.cons (at_obl (c := GCell.c) (GCell.c_eq c306_) GCell.c_len h306) (.cons (len_ok 5 [.int .i64 c306_.gKind, .str c306_.gName, .int .i64 c306_.gNum, .int .i64 c306_.gTo, .sl (List.map cI.i64 c306_.gKids)]) .nil)) ?_
          refine Wc.seq ?_
          refine Wc.seq ?_
          obtain ⟨l307_, h307, h304⟩ := obind h304
          refine Wc.region [{}, {}, { r := some (.v (.bool l307_) []) }] [] [1, 3, 4, 5, 16, 17, 18, 26] [1, 5, 14] [] ⟨[(1, (.ptr 1 0, [])), (3, (.mp 14, [])), (4, (.v (.int .i64 b304_), [])), (5, (.ptr 5 0, [])), (16, (.v (.sl (List.map GCell.c e303_.gCells)), [])), (17, (.v (.int .i64 (e303_.gCells.length : Int)), [])), (18, (.v (.int .i64 b304_), [])), (26, (.v (.bool (!l307_)), []))], [(1, .cells [.sl (List.map GCell.c e303_.gCells), .sl (List.map cI.i64 e303_.gTrail)] []), (5, .cells [.int .i64 c306_.gKind, .str c306_.gName, .int .i64 c306_.gNum, .int .i64 c306_.gTo, .sl (List.map cI.i64 c306_.gKids)] []), (14, .map (mgk v305_) (mgv v305_))], []⟩ _ (by kernel_rfl) (.cons (cimpl_within h307) .nil) ?_
          rcases oif h304 with ⟨h308, h304⟩ | ⟨h308, h304⟩
          · refine Wc.condT h308 (by kernel_rfl) ?_
            refine Wc.seq ?_
            refine Wc.region [] [] [2] [] [] ⟨[(2, (.v (.bool false), []))], [], []⟩ _ (by kernel_rfl) .nil ?_
            refine Wc.ret ?_
            obtain rfl := Option.some.inj h304
            obtain rfl := Option.some.inj h
            exact ⟨.inl rfl, by kernel_rfl, by kernel_rfl⟩
          · refine Wc.condF h308 (by kernel_rfl) ?_
            refine Wc.fix (st' := ⟨[(1, (.ptr 1 0, [])), (3, (.mp 14, [])), (4, (.v (.int .i64 b304_), [])), (5, (.ptr 5 0, [])), (16, (.v (.sl (List.map GCell.c e303_.gCells)), [])), (17, (.v (.int .i64 (e303_.gCells.length : Int)), [])), (18, (.v (.int .i64 b304_), []))], [(1, .cells [.sl (List.map GCell.c e303_.gCells), .sl (List.map cI.i64 e303_.gTrail)] []), (5, .cells [.int .i64 c306_.gKind, .str c306_.gName, .int .i64 c306_.gNum, .int .i64 c306_.gTo, .sl (List.map cI.i64 c306_.gKids)] []), (14, .map (mgk v305_) (mgv v305_))], []⟩) [] [1, 3, 4, 5, 16, 17, 18] [1, 5, 14] [] (by kernel_rfl) ?_
            refine Wc.skip ?_
            refine Wc.seqJ (fun st => ∃ (v308_ : List (Int × Int)), st = ⟨[(1, (.ptr 1 0, [])), (3, (.mp 14, [])), (5, (.ptr 5 0, [])), (16, (.v (.sl (List.map GCell.c e303_.gCells)), [])), (17, (.v (.int .i64 (e303_.gCells.length : Int)), [])), (18, (.v (.int .i64 b304_), []))], [(1, .cells [.sl (List.map GCell.c e303_.gCells), .sl (List.map cI.i64 e303_.gTrail)] []), (5, .cells [.int .i64 c306_.gKind, .str c306_.gName, .int .i64 c306_.gNum, .int .i64 c306_.gTo, .sl (List.map cI.i64 c306_.gKids)] []), (14, .map (mgk v308_) (mgv v308_))], []⟩ ∧ pimpl_HeapOk_J2 k (pimpl_HeapOk_L1 k e303_ m) c306_ e303_ b304_ v308_ = some out1) ?_ ?_
            · refine Wc.seq ?_
              refine Wc.region [] [] [1, 3, 4, 5, 16, 17, 18, 29] [1, 5, 14] [] ⟨[(1, (.ptr 1 0, [])), (3, (.mp 14, [])), (4, (.v (.int .i64 b304_), [])), (5, (.ptr 5 0, [])), (16, (.v (.sl (List.map GCell.c e303_.gCells)), [])), (17, (.v (.int .i64 (e303_.gCells.length : Int)), [])), (18, (.v (.int .i64 b304_), [])), (29, (.v (.bool (c306_.gKind == 1)), []))], [(1, .cells [.sl (List.map GCell.c e303_.gCells), .sl (List.map cI.i64 e303_.gTrail)] []), (5, .cells [.int .i64 c306_.gKind, .str c306_.gName, .int .i64 c306_.gNum, .int .i64 c306_.gTo, .sl (List.map cI.i64 c306_.gKids)] []), (14, .map (mgk v305_) (mgv v305_))], []⟩ _ (by kernel_rfl) .nil ?_
              rcases oif h304 with ⟨h314, h304⟩ | ⟨h314, h304⟩
              · refine Wc.condT h314 (by kernel_rfl) ?_
                refine Wc.seq ?_
                refine Wc.region [{}, {}, {}, { v := some (.int .i64 (mget v305_ c306_.gNum)) }, {}, { c := some [mgk (mset v305_ c306_.gNum (wr.i64 ((mget v305_ c306_.gNum) + 1))), mgv (mset v305_ c306_.gNum (wr.i64 ((mget v305_ c306_.gNum) + 1)))] }] [] [1, 3, 4, 5, 16, 17, 18] [1, 5, 14] [] ⟨[(1, (.ptr 1 0, [])), (3, (.mp 14, [])), (4, (.v (.int .i64 b304_), [])), (5, (.ptr 5 0, [])), (16, (.v (.sl (List.map GCell.c e303_.gCells)), [])), (17, (.v (.int .i64 (e303_.gCells.length : Int)), [])), (18, (.v (.int .i64 b304_), []))], [(1, .cells [.sl (List.map GCell.c e303_.gCells), .sl (List.map cI.i64 e303_.gTrail)] []), (5, .cells [.int .i64 c306_.gKind, .str c306_.gName, .int .i64 c306_.gNum, .int .i64 c306_.gTo, .sl (List.map cI.i64 c306_.gKids)] []), (14, .map (mgk (mset v305_ c306_.gNum (wr.i64 ((mget v305_ c306_.gNum) + 1)))) (mgv (mset v305_ c306_.gNum (wr.i64 ((mget v305_ c306_.gNum) + 1)))))], []⟩ _ (by kernel_rfl) (.cons (mapget_obl v305_ c306_.gNum) (.cons (mapset_obl v305_ c306_.gNum (wr.i64 ((mget v305_ c306_.gNum) + 1))) .nil)) ?_
                refine Wc.seq ?_
                rcases oif h304 with ⟨h315, h304⟩ | ⟨h315, h304⟩
                · refine Wc.region [{}, {}, {}, { v := some (.int .i64 (mget (mset v305_ c306_.gNum (wr.i64 ((mget v305_ c306_.gNum) + 1))) c306_.gNum)) }, {}, { re := some (.bool true) }] [] [1, 3, 5, 16, 17, 18, 57] [1, 5, 14] [] ⟨[(1, (.ptr 1 0, [])), (3, (.mp 14, [])), (5, (.ptr 5 0, [])), (16, (.v (.sl (List.map GCell.c e303_.gCells)), [])), (17, (.v (.int .i64 (e303_.gCells.length : Int)), [])), (18, (.v (.int .i64 b304_), [])), (57, (.v (.bool true), []))], [(1, .cells [.sl (List.map GCell.c e303_.gCells), .sl (List.map cI.i64 e303_.gTrail)] []), (5, .cells [.int .i64 c306_.gKind, .str c306_.gName, .int .i64 c306_.gNum, .int .i64 c306_.gTo, .sl (List.map cI.i64 c306_.gKids)] []), (14, .map (mgk (mset v305_ c306_.gNum (wr.i64 ((mget v305_ c306_.gNum) + 1)))) (mgv (mset v305_ c306_.gNum (wr.i64 ((mget v305_ c306_.gNum) + 1)))))], []⟩ _ (by kernel_rfl) (.cons (mapget_obl (mset v305_ c306_.gNum (wr.i64 ((mget v305_ c306_.gNum) + 1))) c306_.gNum) (.cons (congrArg AV.bool h315) .nil)) ?_
                  refine Wc.condT rfl (by kernel_rfl) ?_
                  refine Wc.seq ?_
                  refine Wc.region [] [] [2] [] [] ⟨[(2, (.v (.bool false), []))], [], []⟩ _ (by kernel_rfl) .nil ?_
                  refine Wc.ret ?_
                  obtain rfl := Option.some.inj h304
                  obtain rfl := Option.some.inj h
                  exact ⟨.inl rfl, by kernel_rfl, by kernel_rfl⟩
                · rcases oif h304 with ⟨h316, h304⟩ | ⟨h316, h304⟩
                  · obtain ⟨l312_, h317, h304⟩ := obind h304
                    rcases oif h304 with ⟨h318, h304⟩ | ⟨h318, h304⟩
                    · refine Wc.region [{}, {}, {}, { v := some (.int .i64 (mget (mset v305_ c306_.gNum (wr.i64 ((mget v305_ c306_.gNum) + 1))) c306_.gNum)) }, {}, { re := some (.bool false) }, {}, {}, {}, { re := some (.bool true) }, {}, {}, {}, { r := some (.v (.bool l312_) []) }, {}, {}, {}, { re := some (.bool true) }] [] [1, 3, 5, 16, 17, 18, 57] [1, 5, 14] [] ⟨[(1, (.ptr 1 0, [])), (3, (.mp 14, [])), (5, (.ptr 5 0, [])), (16, (.v (.sl (List.map GCell.c e303_.gCells)), [])), (17, (.v (.int .i64 (e303_.gCells.length : Int)), [])), (18, (.v (.int .i64 b304_), [])), (57, (.v (.bool true), []))], [(1, .cells [.sl (List.map GCell.c e303_.gCells), .sl (List.map cI.i64 e303_.gTrail)] []), (5, .cells [.int .i64 c306_.gKind, .str c306_.gName, .int .i64 c306_.gNum, .int .i64 c306_.gTo, .sl (List.map cI.i64 c306_.gKids)] []), (14, .map (mgk (mset v305_ c306_.gNum (wr.i64 ((mget v305_ c306_.gNum) + 1)))) (mgv (mset v305_ c306_.gNum (wr.i64 ((mget v305_ c306_.gNum) + 1)))))], []⟩ _ (by kernel_rfl) (.cons (mapget_obl (mset v305_ c306_.gNum (wr.i64 ((mget v305_ c306_.gNum) + 1))) c306_.gNum) (.cons (congrArg AV.bool h315) (.cons (congrArg AV.bool h316) (.cons (cimpl_isCell h317) (.cons (congrArg AV.bool h318) .nil))))) ?_
                      refine Wc.condT rfl (by kernel_rfl) ?_
                      refine Wc.seq ?_
                      refine Wc.region [] [] [2] [] [] ⟨[(2, (.v (.bool false), []))], [], []⟩ _ (by kernel_rfl) .nil ?_
                      refine Wc.ret ?_
                      obtain rfl := Option.some.inj h304
                      obtain rfl := Option.some.inj h
                      exact ⟨.inl rfl, by kernel_rfl, by kernel_rfl⟩
                    · obtain ⟨b313_, h319, h304⟩ := obind h304
                      refine Wc.region [{}, {}, {}, { v := some (.int .i64 (mget (mset v305_ c306_.gNum (wr.i64 ((mget v305_ c306_.gNum) + 1))) c306_.gNum)) }, {}, { re := some (.bool false) }, {}, {}, {}, { re := some (.bool true) }, {}, {}, {}, { r := some (.v (.bool l312_) []) }, {}, {}, {}, { re := some (.bool false) }, {}, {}, { r := some (.v (.int .i64 b313_) []) }] [] [1, 3, 5, 16, 17, 18, 57] [1, 5, 14] [] ⟨[(1, (.ptr 1 0, [])), (3, (.mp 14, [])), (5, (.ptr 5 0, [])), (16, (.v (.sl (List.map GCell.c e303_.gCells)), [])), (17, (.v (.int .i64 (e303_.gCells.length : Int)), [])), (18, (.v (.int .i64 b304_), [])), (57, (.v (.bool (decide (b313_ < 0))), []))], [(1, .cells [.sl (List.map GCell.c e303_.gCells), .sl (List.map cI.i64 e303_.gTrail)] []), (5, .cells [.int .i64 c306_.gKind, .str c306_.gName, .int .i64 c306_.gNum, .int .i64 c306_.gTo, .sl (List.map cI.i64 c306_.gKids)] []), (14, .map (mgk (mset v305_ c306_.gNum (wr.i64 ((mget v305_ c306_.gNum) + 1)))) (mgv (mset v305_ c306_.gNum (wr.i64 ((mget v305_ c306_.gNum) + 1)))))], []⟩ _ (by kernel_rfl) (.cons (mapget_obl (mset v305_ c306_.gNum (wr.i64 ((mget v305_ c306_.gNum) + 1))) c306_.gNum) (.cons (congrArg AV.bool h315) (.cons (congrArg AV.bool h316) (.cons (cimpl_isCell h317) (.cons (congrArg AV.bool h318) (.cons (cimpl_follow h319) .nil)))))) ?_
                      rcases oif h304 with ⟨h320, h304⟩ | ⟨h320, h304⟩
                      · refine Wc.condT h320 (by kernel_rfl) ?_
                        refine Wc.seq ?_
                        refine Wc.region [] [] [2] [] [] ⟨[(2, (.v (.bool false), []))], [], []⟩ _ (by kernel_rfl) .nil ?_
                        refine Wc.ret ?_
                        obtain rfl := Option.some.inj h304
                        obtain rfl := Option.some.inj h
                        exact ⟨.inl rfl, by kernel_rfl, by kernel_rfl⟩
                      · refine Wc.condF h320 (by kernel_rfl) ?_
                        refine Wc.fix (st' := ⟨[(1, (.ptr 1 0, [])), (3, (.mp 14, [])), (5, (.ptr 5 0, [])), (16, (.v (.sl (List.map GCell.c e303_.gCells)), [])), (17, (.v (.int .i64 (e303_.gCells.length : Int)), [])), (18, (.v (.int .i64 b304_), []))], [(1, .cells [.sl (List.map GCell.c e303_.gCells), .sl (List.map cI.i64 e303_.gTrail)] []), (5, .cells [.int .i64 c306_.gKind, .str c306_.gName, .int .i64 c306_.gNum, .int .i64 c306_.gTo, .sl (List.map cI.i64 c306_.gKids)] []), (14, .map (mgk (mset v305_ c306_.gNum (wr.i64 ((mget v305_ c306_.gNum) + 1)))) (mgv (mset v305_ c306_.gNum (wr.i64 ((mget v305_ c306_.gNum) + 1)))))], []⟩) [] [1, 3, 5, 16, 17, 18] [1, 5, 14] [] (by kernel_rfl) ?_
                        refine Wc.skip ?_
                        exact ⟨_, rfl, h304⟩
                  · obtain ⟨b312_, h317, h304⟩ := obind h304
                    refine Wc.region [{}, {}, {}, { v := some (.int .i64 (mget (mset v305_ c306_.gNum (wr.i64 ((mget v305_ c306_.gNum) + 1))) c306_.gNum)) }, {}, { re := some (.bool false) }, {}, {}, {}, { re := some (.bool false) }, {}, {}, {}, {}, {}, {}, {}, {}, {}, {}, { r := some (.v (.int .i64 b312_) []) }] [] [1, 3, 5, 16, 17, 18, 57] [1, 5, 14] [] ⟨[(1, (.ptr 1 0, [])), (3, (.mp 14, [])), (5, (.ptr 5 0, [])), (16, (.v (.sl (List.map GCell.c e303_.gCells)), [])), (17, (.v (.int .i64 (e303_.gCells.length : Int)), [])), (18, (.v (.int .i64 b304_), [])), (57, (.v (.bool (decide (b312_ < 0))), []))], [(1, .cells [.sl (List.map GCell.c e303_.gCells), .sl (List.map cI.i64 e303_.gTrail)] []), (5, .cells [.int .i64 c306_.gKind, .str c306_.gName, .int .i64 c306_.gNum, .int .i64 c306_.gTo, .sl (List.map cI.i64 c306_.gKids)] []), (14, .map (mgk (mset v305_ c306_.gNum (wr.i64 ((mget v305_ c306_.gNum) + 1)))) (mgv (mset v305_ c306_.gNum (wr.i64 ((mget v305_ c306_.gNum) + 1)))))], []⟩ _ (by kernel_rfl) (.cons (mapget_obl (mset v305_ c306_.gNum (wr.i64 ((mget v305_ c306_.gNum) + 1))) c306_.gNum) (.cons (congrArg AV.bool h315) (.cons (congrArg AV.bool h316) (.cons (cimpl_follow h317) .nil)))) ?_
                    rcases oif h304 with ⟨h321, h304⟩ | ⟨h321, h304⟩
                    · refine Wc.condT h321 (by kernel_rfl) ?_
                      refine Wc.seq ?_
                      refine Wc.region [] [] [2] [] [] ⟨[(2, (.v (.bool false), []))], [], []⟩ _ (by kernel_rfl) .nil ?_
                      refine Wc.ret ?_
                      obtain rfl := Option.some.inj h304
                      obtain rfl := Option.some.inj h
                      exact ⟨.inl rfl, by kernel_rfl, by kernel_rfl⟩
                    · refine Wc.condF h321 (by kernel_rfl) ?_
                      refine Wc.fix (st' := ⟨[(1, (.ptr 1 0, [])), (3, (.mp 14, [])), (5, (.ptr 5 0, [])), (16, (.v (.sl (List.map GCell.c e303_.gCells)), [])), (17, (.v (.int .i64 (e303_.gCells.length : Int)), [])), (18, (.v (.int .i64 b304_), []))], [(1, .cells [.sl (List.map GCell.c e303_.gCells), .sl (List.map cI.i64 e303_.gTrail)] []), (5, .cells [.int .i64 c306_.gKind, .str c306_.gName, .int .i64 c306_.gNum, .int .i64 c306_.gTo, .sl (List.map cI.i64 c306_.gKids)] []), (14, .map (mgk (mset v305_ c306_.gNum (wr.i64 ((mget v305_ c306_.gNum) + 1)))) (mgv (mset v305_ c306_.gNum (wr.i64 ((mget v305_ c306_.gNum) + 1)))))], []⟩) [] [1, 3, 5, 16, 17, 18] [1, 5, 14] [] (by kernel_rfl) ?_
                      refine Wc.skip ?_
                      exact ⟨_, rfl, h304⟩
              · refine Wc.condF h314 (by kernel_rfl) ?_
                refine Wc.fix (st' := ⟨[(1, (.ptr 1 0, [])), (3, (.mp 14, [])), (5, (.ptr 5 0, [])), (16, (.v (.sl (List.map GCell.c e303_.gCells)), [])), (17, (.v (.int .i64 (e303_.gCells.length : Int)), [])), (18, (.v (.int .i64 b304_), []))], [(1, .cells [.sl (List.map GCell.c e303_.gCells), .sl (List.map cI.i64 e303_.gTrail)] []), (5, .cells [.int .i64 c306_.gKind, .str c306_.gName, .int .i64 c306_.gNum, .int .i64 c306_.gTo, .sl (List.map cI.i64 c306_.gKids)] []), (14, .map (mgk v305_) (mgv v305_))], []⟩) [] [1, 3, 5, 16, 17, 18] [1, 5, 14] [] (by kernel_rfl) ?_
                refine Wc.skip ?_
                exact ⟨_, rfl, h304⟩
            · rintro st ⟨v308_, rfl, h304⟩
              refine Wc.seq ?_
              refine Wc.region [{}, {}, { v := some (.int .i64 (c306_.gKids.length : Int)) }] [] [1, 3, 16, 17, 18, 59, 60, 61] [1, 14] [] ⟨[(1, (.ptr 1 0, [])), (3, (.mp 14, [])), (16, (.v (.sl (List.map GCell.c e303_.gCells)), [])), (17, (.v (.int .i64 (e303_.gCells.length : Int)), [])), (18, (.v (.int .i64 b304_), [])), (59, (.v (.sl (List.map cI.i64 c306_.gKids)), [])), (60, (.v (.int .i64 (c306_.gKids.length : Int)), [])), (61, (.v (.int .i64 0), []))], [(1, .cells [.sl (List.map GCell.c e303_.gCells), .sl (List.map cI.i64 e303_.gTrail)] []), (14, .map (mgk v308_) (mgv v308_))], []⟩ _ (by kernel_rfl) (.cons (len_obl cI.i64 c306_.gKids) .nil) ?_
              obtain ⟨out3, h309, h304⟩ := obind h304
              refine Wc.lastJ (fun st => out3 = .done () ∧ st = ⟨[(1, (.ptr 1 0, [])), (3, (.mp 14, [])), (16, (.v (.sl (List.map GCell.c e303_.gCells)), [])), (17, (.v (.int .i64 (e303_.gCells.length : Int)), [])), (18, (.v (.int .i64 b304_), []))], [(1, .cells [.sl (List.map GCell.c e303_.gCells), .sl (List.map cI.i64 e303_.gTrail)] []), (14, .map (mgk v308_) (mgv v308_))], []⟩) ?_ ?_
              · refine Wc.block ?_
                refine Wc.loop (fun m st => ∃ (b309_ : Int), st = ⟨[(1, (.ptr 1 0, [])), (3, (.mp 14, [])), (16, (.v (.sl (List.map GCell.c e303_.gCells)), [])), (17, (.v (.int .i64 (e303_.gCells.length : Int)), [])), (18, (.v (.int .i64 b304_), [])), (59, (.v (.sl (List.map cI.i64 c306_.gKids)), [])), (60, (.v (.int .i64 (c306_.gKids.length : Int)), [])), (61, (.v (.int .i64 b309_), []))], [(1, .cells [.sl (List.map GCell.c e303_.gCells), .sl (List.map cI.i64 e303_.gTrail)] []), (14, .map (mgk v308_) (mgv v308_))], []⟩ ∧ pimpl_HeapOk_L3 k c306_ e303_ m b309_ = some out3) ?_ k ⟨_, rfl, h309⟩
                rintro m st ⟨b309_, rfl, h309⟩
                cases m with
                | zero => exact (onone h309).elim
                | succ m =>
                  refine Wc.seq ?_
                  refine Wc.region [] [] [1, 3, 16, 17, 18, 59, 60, 61, 62] [1, 14] [] ⟨[(1, (.ptr 1 0, [])), (3, (.mp 14, [])), (16, (.v (.sl (List.map GCell.c e303_.gCells)), [])), (17, (.v (.int .i64 (e303_.gCells.length : Int)), [])), (18, (.v (.int .i64 b304_), [])), (59, (.v (.sl (List.map cI.i64 c306_.gKids)), [])), (60, (.v (.int .i64 (c306_.gKids.length : Int)), [])), (61, (.v (.int .i64 b309_), [])), (62, (.v (.bool (decide (b309_ < (c306_.gKids.length : Int)))), []))], [(1, .cells [.sl (List.map GCell.c e303_.gCells), .sl (List.map cI.i64 e303_.gTrail)] []), (14, .map (mgk v308_) (mgv v308_))], []⟩ _ (by kernel_rfl) .nil ?_
                  refine Wc.seq ?_
                  rcases oif h309 with ⟨h310, h309⟩ | ⟨h310, h309⟩
                  · refine Wc.condT h310 (by kernel_rfl) ?_
                    refine Wc.fix (st' := ⟨[(1, (.ptr 1 0, [])), (3, (.mp 14, [])), (16, (.v (.sl (List.map GCell.c e303_.gCells)), [])), (17, (.v (.int .i64 (e303_.gCells.length : Int)), [])), (18, (.v (.int .i64 b304_), [])), (59, (.v (.sl (List.map cI.i64 c306_.gKids)), [])), (60, (.v (.int .i64 (c306_.gKids.length : Int)), [])), (61, (.v (.int .i64 b309_), []))], [(1, .cells [.sl (List.map GCell.c e303_.gCells), .sl (List.map cI.i64 e303_.gTrail)] []), (14, .map (mgk v308_) (mgv v308_))], []⟩) [] [1, 3, 16, 17, 18, 59, 60, 61] [1, 14] [] (by kernel_rfl) ?_
                    refine Wc.skip ?_
                    refine Wc.seq ?_
                    refine Wc.block ?_
                    refine Wc.seq ?_
                    obtain ⟨b310_, h311, h309⟩ := obind h309
                    refine Wc.region [{ v := some (.vptr [.int .i64 b310_]) }] [] [1, 3, 7, 16, 17, 18, 59, 60, 61] [1, 14] [] ⟨[(1, (.ptr 1 0, [])), (3, (.mp 14, [])), (7, (.v (.int .i64 b310_), [])), (16, (.v (.sl (List.map GCell.c e303_.gCells)), [])), (17, (.v (.int .i64 (e303_.gCells.length : Int)), [])), (18, (.v (.int .i64 b304_), [])), (59, (.v (.sl (List.map cI.i64 c306_.gKids)), [])), (60, (.v (.int .i64 (c306_.gKids.length : Int)), [])), (61, (.v (.int .i64 b309_), []))], [(1, .cells [.sl (List.map GCell.c e303_.gCells), .sl (List.map cI.i64 e303_.gTrail)] []), (14, .map (mgk v308_) (mgv v308_))], []⟩ _ (by kernel_rfl) (.cons (at_obl (c := cI.i64) rfl cI.i64_len h311) (.cons (len_ok 1 [.int .i64 b310_]) .nil)) ?_
                    refine Wc.seq ?_
                    obtain ⟨l311_, h312, h309⟩ := obind h309
                    refine Wc.region [{}, {}, { r := some (.v (.bool l311_) []) }] [] [1, 3, 16, 17, 18, 59, 60, 61, 68] [1, 14] [] ⟨[(1, (.ptr 1 0, [])), (3, (.mp 14, [])), (16, (.v (.sl (List.map GCell.c e303_.gCells)), [])), (17, (.v (.int .i64 (e303_.gCells.length : Int)), [])), (18, (.v (.int .i64 b304_), [])), (59, (.v (.sl (List.map cI.i64 c306_.gKids)), [])), (60, (.v (.int .i64 (c306_.gKids.length : Int)), [])), (61, (.v (.int .i64 b309_), [])), (68, (.v (.bool (!l311_)), []))], [(1, .cells [.sl (List.map GCell.c e303_.gCells), .sl (List.map cI.i64 e303_.gTrail)] []), (14, .map (mgk v308_) (mgv v308_))], []⟩ _ (by kernel_rfl) (.cons (cimpl_isCell h312) .nil) ?_
                    rcases oif h309 with ⟨h313, h309⟩ | ⟨h313, h309⟩
                    · refine Wc.condT h313 (by kernel_rfl) ?_
                      refine Wc.seq ?_
                      refine Wc.region [] [] [2] [] [] ⟨[(2, (.v (.bool false), []))], [], []⟩ _ (by kernel_rfl) .nil ?_
                      refine Wc.ret ?_
                      obtain rfl := Option.some.inj h309
                      obtain rfl := Option.some.inj h304
                      obtain rfl := Option.some.inj h
                      exact ⟨.inl rfl, by kernel_rfl, by kernel_rfl⟩
                    · refine Wc.condF h313 (by kernel_rfl) ?_
                      refine Wc.fix (st' := ⟨[(1, (.ptr 1 0, [])), (3, (.mp 14, [])), (16, (.v (.sl (List.map GCell.c e303_.gCells)), [])), (17, (.v (.int .i64 (e303_.gCells.length : Int)), [])), (18, (.v (.int .i64 b304_), [])), (59, (.v (.sl (List.map cI.i64 c306_.gKids)), [])), (60, (.v (.int .i64 (c306_.gKids.length : Int)), [])), (61, (.v (.int .i64 b309_), []))], [(1, .cells [.sl (List.map GCell.c e303_.gCells), .sl (List.map cI.i64 e303_.gTrail)] []), (14, .map (mgk v308_) (mgv v308_))], []⟩) [] [1, 3, 16, 17, 18, 59, 60, 61] [1, 14] [] (by kernel_rfl) ?_
                      refine Wc.skip ?_
                      refine Wc.region [] [] [1, 3, 16, 17, 18, 59, 60, 61] [1, 14] [] ⟨[(1, (.ptr 1 0, [])), (3, (.mp 14, [])), (16, (.v (.sl (List.map GCell.c e303_.gCells)), [])), (17, (.v (.int .i64 (e303_.gCells.length : Int)), [])), (18, (.v (.int .i64 b304_), [])), (59, (.v (.sl (List.map cI.i64 c306_.gKids)), [])), (60, (.v (.int .i64 (c306_.gKids.length : Int)), [])), (61, (.v (.int .i64 (wr.i64 (b309_ + 1))), []))], [(1, .cells [.sl (List.map GCell.c e303_.gCells), .sl (List.map cI.i64 e303_.gTrail)] []), (14, .map (mgk v308_) (mgv v308_))], []⟩ _ (by kernel_rfl) .nil ?_
                      exact ⟨_, Nat.lt_succ_self _, _, rfl, h309⟩
                  · refine Wc.condF h310 (by kernel_rfl) ?_
                    refine Wc.fix (st' := ⟨[(1, (.ptr 1 0, [])), (3, (.mp 14, [])), (16, (.v (.sl (List.map GCell.c e303_.gCells)), [])), (17, (.v (.int .i64 (e303_.gCells.length : Int)), [])), (18, (.v (.int .i64 b304_), []))], [(1, .cells [.sl (List.map GCell.c e303_.gCells), .sl (List.map cI.i64 e303_.gTrail)] []), (14, .map (mgk v308_) (mgv v308_))], []⟩) [] [1, 3, 16, 17, 18] [1, 14] [] (by kernel_rfl) ?_
                    refine Wc.exit ?_
                    obtain rfl := Option.some.inj h309
                    exact ⟨rfl, rfl⟩
              · rintro st ⟨rfl, rfl⟩
                refine Wc.region [] [] [1, 3, 16, 17, 18] [1, 14] [] ⟨[(1, (.ptr 1 0, [])), (3, (.mp 14, [])), (16, (.v (.sl (List.map GCell.c e303_.gCells)), [])), (17, (.v (.int .i64 (e303_.gCells.length : Int)), [])), (18, (.v (.int .i64 (wr.i64 (b304_ + 1))), []))], [(1, .cells [.sl (List.map GCell.c e303_.gCells), .sl (List.map cI.i64 e303_.gTrail)] []), (14, .map (mgk v308_) (mgv v308_))], []⟩ _ (by kernel_rfl) .nil ?_
                exact ⟨_, Nat.lt_succ_self _, _, _, rfl, h304⟩
        · refine Wc.condF h305 (by kernel_rfl) ?_
          refine Wc.fix (st' := ⟨[(1, (.ptr 1 0, []))], [(1, .cells [.sl (List.map GCell.c e303_.gCells), .sl (List.map cI.i64 e303_.gTrail)] [])], []⟩) [] [1] [1] [] (by kernel_rfl) ?_
          refine Wc.exit ?_
          obtain rfl := Option.some.inj h304
          exact ⟨rfl, rfl⟩
    · rintro st ⟨rfl, rfl⟩
      refine Wc.seq ?_
      refine Wc.seq ?_
      refine Wc.region [{}, {}, { v := some (.int .i64 (e303_.gTrail.length : Int)) }] [] [1, 72, 73, 74] [1] [] ⟨[(1, (.ptr 1 0, [])), (72, (.v (.sl (List.map cI.i64 e303_.gTrail)), [])), (73, (.v (.int .i64 (e303_.gTrail.length : Int)), [])), (74, (.v (.int .i64 0), []))], [(1, .cells [.sl (List.map GCell.c e303_.gCells), .sl (List.map cI.i64 e303_.gTrail)] [])], []⟩ _ (by kernel_rfl) (.cons (len_obl cI.i64 e303_.gTrail) .nil) ?_
      obtain ⟨out4, h322, h⟩ := obind h
      refine Wc.lastJ (fun st => out4 = .done () ∧ st = ⟨[], [], []⟩) ?_ ?_
      · refine Wc.block ?_
        refine Wc.loop (fun m st => ∃ (b314_ : Int), st = ⟨[(1, (.ptr 1 0, [])), (72, (.v (.sl (List.map cI.i64 e303_.gTrail)), [])), (73, (.v (.int .i64 (e303_.gTrail.length : Int)), [])), (74, (.v (.int .i64 b314_), []))], [(1, .cells [.sl (List.map GCell.c e303_.gCells), .sl (List.map cI.i64 e303_.gTrail)] [])], []⟩ ∧ pimpl_HeapOk_L4 k e303_ m b314_ = some out4) ?_ k ⟨_, rfl, h322⟩
        rintro m st ⟨b314_, rfl, h322⟩
        cases m with
        | zero => exact (onone h322).elim
        | succ m =>
          refine Wc.seq ?_
          refine Wc.region [] [] [1, 72, 73, 74, 75] [1] [] ⟨[(1, (.ptr 1 0, [])), (72, (.v (.sl (List.map cI.i64 e303_.gTrail)), [])), (73, (.v (.int .i64 (e303_.gTrail.length : Int)), [])), (74, (.v (.int .i64 b314_), [])), (75, (.v (.bool (decide (b314_ < (e303_.gTrail.length : Int)))), []))], [(1, .cells [.sl (List.map GCell.c e303_.gCells), .sl (List.map cI.i64 e303_.gTrail)] [])], []⟩ _ (by kernel_rfl) .nil ?_
          refine Wc.seq ?_
          rcases oif h322 with ⟨h323, h322⟩ | ⟨h323, h322⟩
          · refine Wc.condT h323 (by kernel_rfl) ?_
            refine Wc.fix (st' := ⟨[(1, (.ptr 1 0, [])), (72, (.v (.sl (List.map cI.i64 e303_.gTrail)), [])), (73, (.v (.int .i64 (e303_.gTrail.length : Int)), [])), (74, (.v (.int .i64 b314_), []))], [(1, .cells [.sl (List.map GCell.c e303_.gCells), .sl (List.map cI.i64 e303_.gTrail)] [])], []⟩) [] [1, 72, 73, 74] [1] [] (by kernel_rfl) ?_
            refine Wc.skip ?_
            refine Wc.seq ?_
            refine Wc.block ?_
            refine Wc.seq ?_
            obtain ⟨b315_, h324, h322⟩ := obind h322
            refine Wc.region [{ v := some (.vptr [.int .i64 b315_]) }] [] [1, 9, 72, 73, 74] [1] [] ⟨[(1, (.ptr 1 0, [])), (9, (.v (.int .i64 b315_), [])), (72, (.v (.sl (List.map cI.i64 e303_.gTrail)), [])), (73, (.v (.int .i64 (e303_.gTrail.length : Int)), [])), (74, (.v (.int .i64 b314_), []))], [(1, .cells [.sl (List.map GCell.c e303_.gCells), .sl (List.map cI.i64 e303_.gTrail)] [])], []⟩ _ (by kernel_rfl) (.cons (at_obl (c := cI.i64) rfl cI.i64_len h324) (.cons (len_ok 1 [.int .i64 b315_]) .nil)) ?_
            refine Wc.seq ?_
            obtain ⟨l316_, h325, h322⟩ := obind h322
            rcases oif h322 with ⟨h326, h322⟩ | ⟨h326, h322⟩
            · refine Wc.region [{}, {}, { r := some (.v (.bool l316_) []) }, {}, { re := some (.bool true) }] [] [1, 72, 73, 74, 90] [1] [] ⟨[(1, (.ptr 1 0, [])), (72, (.v (.sl (List.map cI.i64 e303_.gTrail)), [])), (73, (.v (.int .i64 (e303_.gTrail.length : Int)), [])), (74, (.v (.int .i64 b314_), [])), (90, (.v (.bool true), []))], [(1, .cells [.sl (List.map GCell.c e303_.gCells), .sl (List.map cI.i64 e303_.gTrail)] [])], []⟩ _ (by kernel_rfl) (.cons (cimpl_isCell h325) (.cons (congrArg AV.bool h326) .nil)) ?_
              refine Wc.condT rfl (by kernel_rfl) ?_
              refine Wc.seq ?_
              refine Wc.region [] [] [2] [] [] ⟨[(2, (.v (.bool false), []))], [], []⟩ _ (by kernel_rfl) .nil ?_
              refine Wc.ret ?_
              obtain rfl := Option.some.inj h322
              obtain rfl := Option.some.inj h
              exact ⟨.inl rfl, by kernel_rfl, by kernel_rfl⟩
            · obtain ⟨c317_, h327, h322⟩ := obind h322
              refine Wc.region [{}, {}, { r := some (.v (.bool l316_) []) }, {}, { re := some (.bool false) }, {}, {}, {}, { v := some (.vptr [.int .i64 c317_.gKind, .str c317_.gName, .int .i64 c317_.gNum, .int .i64 c317_.gTo, .sl (List.map cI.i64 c317_.gKids)]) }] [] [1, 72, 73, 74, 90] [1] [] ⟨[(1, (.ptr 1 0, [])), (72, (.v (.sl (List.map cI.i64 e303_.gTrail)), [])), (73, (.v (.int .i64 (e303_.gTrail.length : Int)), [])), (74, (.v (.int .i64 b314_), [])), (90, (.v (.bool (c317_.gKind != 1)), []))], [(1, .cells [.sl (List.map GCell.c e303_.gCells), .sl (List.map cI.i64 e303_.gTrail)] [])], []⟩ _ (by kernel_rfl) (.cons (cimpl_isCell h325) (.cons (congrArg AV.bool h326) (.cons (at_obl (c := GCell.c) (GCell.c_eq c317_) GCell.c_len h327) (.cons (len_ok 1 [.int .i64 c317_.gKind, .str c317_.gName, .int .i64 c317_.gNum, .int .i64 c317_.gTo, .sl (List.map cI.i64 c317_.gKids)]) .nil)))) ?_
              rcases oif h322 with ⟨h328, h322⟩ | ⟨h328, h322⟩
              · refine Wc.condT h328 (by kernel_rfl) ?_
                refine Wc.seq ?_
                refine Wc.region [] [] [2] [] [] ⟨[(2, (.v (.bool false), []))], [], []⟩ _ (by kernel_rfl) .nil ?_
                refine Wc.ret ?_
                obtain rfl := Option.some.inj h322
                obtain rfl := Option.some.inj h
                exact ⟨.inl rfl, by kernel_rfl, by kernel_rfl⟩
              · refine Wc.condF h328 (by kernel_rfl) ?_
                refine Wc.fix (st' := ⟨[(1, (.ptr 1 0, [])), (72, (.v (.sl (List.map cI.i64 e303_.gTrail)), [])), (73, (.v (.int .i64 (e303_.gTrail.length : Int)), [])), (74, (.v (.int .i64 b314_), []))], [(1, .cells [.sl (List.map GCell.c e303_.gCells), .sl (List.map cI.i64 e303_.gTrail)] [])], []⟩) [] [1, 72, 73, 74] [1] [] (by kernel_rfl) ?_
                refine Wc.skip ?_
                refine Wc.region [] [] [1, 72, 73, 74] [1] [] ⟨[(1, (.ptr 1 0, [])), (72, (.v (.sl (List.map cI.i64 e303_.gTrail)), [])), (73, (.v (.int .i64 (e303_.gTrail.length : Int)), [])), (74, (.v (.int .i64 (wr.i64 (b314_ + 1))), []))], [(1, .cells [.sl (List.map GCell.c e303_.gCells), .sl (List.map cI.i64 e303_.gTrail)] [])], []⟩ _ (by kernel_rfl) .nil ?_
                exact ⟨_, Nat.lt_succ_self _, _, rfl, h322⟩
          · refine Wc.condF h323 (by kernel_rfl) ?_
            refine Wc.fix (st' := ⟨[], [], []⟩) [] [] [] [] (by kernel_rfl) ?_
            refine Wc.exit ?_
            obtain rfl := Option.some.inj h322
            exact ⟨rfl, rfl⟩
      · rintro st ⟨rfl, rfl⟩
        refine Wc.seq ?_
        refine Wc.region [] [] [2] [] [] ⟨[(2, (.v (.bool true), []))], [], []⟩ _ (by kernel_rfl) .nil ?_
        refine Wc.ret ?_
        obtain rfl := Option.some.inj h
        exact ⟨.inl rfl, by kernel_rfl, by kernel_rfl⟩

def pimpl_nameOk_L1 (k : Nat) (m318_ : ByteArray) : Nat → Int → Option (Out Bool Unit)
  | 0, _ => none
  | m + 1, b319_ =>
    if (decide (b319_ < (m318_.size : Int))) = true then
      if 0 ≤ b319_ ∧ (b319_).toNat < m318_.size then
        (pimpl_within k (wr.i64 (bt m318_ b319_)) 33 126).bind fun l320_ =>
        if (!l320_) = true then
          some (.ret false)
        else
          if 0 ≤ b319_ ∧ (b319_).toNat < m318_.size then
            if ((bt m318_ b319_) == 39) = true then
              some (.ret false)
            else
              if 0 ≤ b319_ ∧ (b319_).toNat < m318_.size then
                if ((bt m318_ b319_) == 34) = true then
                  some (.ret false)
                else
                  pimpl_nameOk_L1 k m318_ m (wr.i64 (b319_ + 1))
              else none
          else none
      else none
    else
      some (.done ())
/-- impl.nameOk -/
def pimpl_nameOk (k : Nat) (m318_ : ByteArray) : Option Bool :=
  (pimpl_nameOk_L1 k m318_ k 0).bind fun out1 => match out1 with
  | .ret r => some r
  | .done () =>
    (pimpl_within k (m318_.size : Int) 1 20).bind fun l321_ =>
    some l321_
theorem cimpl_nameOk {k : Nat} {m318_ : ByteArray} {r : Bool} (h : pimpl_nameOk k m318_ = some r) : FnO Try.prog 145 [.v (.str m318_) []] (.v (.bool r) []) [] := by
  refine FnO.of Try.func145 (rfl : Try.f145.body = some _) (Nat.le_of_ble_eq_true (by kernel_rfl)) (Nat.le_of_ble_eq_true (by kernel_rfl)) ?_
  intro w0 X0 Fin pv0 pb
  unfold pimpl_nameOk at h
  refine Wc.seq ?_
  refine Wc.region [] [] [0] [] [] ⟨[(0, (.v (.str m318_), []))], [], []⟩ _ (by kernel_rfl) .nil ?_
  refine Wc.seq ?_
  refine Wc.seq ?_
  refine Wc.region [] [] [0, 3] [] [] ⟨[(0, (.v (.str m318_), [])), (3, (.v (.int .i64 0), []))], [], []⟩ _ (by kernel_rfl) .nil ?_
  obtain ⟨out1, h329, h⟩ := obind h
  refine Wc.lastJ (fun st => out1 = .done () ∧ st = ⟨[(0, (.v (.str m318_), []))], [], []⟩) ?_ ?_
  · refine Wc.block ?_
    refine Wc.loop (fun m st => ∃ (b319_ : Int), st = ⟨[(0, (.v (.str m318_), [])), (3, (.v (.int .i64 b319_), []))], [], []⟩ ∧ pimpl_nameOk_L1 k m318_ m b319_ = some out1) ?_ k ⟨_, rfl, h329⟩
    rintro m st ⟨b319_, rfl, h329⟩
    cases m with
    | zero => exact (onone h329).elim
    | succ m =>
      refine Wc.seq ?_
      refine Wc.seq ?_
      refine Wc.region [] [] [0, 3, 7] [] [] ⟨[(0, (.v (.str m318_), [])), (3, (.v (.int .i64 b319_), [])), (7, (.v (.bool (decide (b319_ < (m318_.size : Int)))), []))], [], []⟩ _ (by kernel_rfl) .nil ?_
      rcases oif h329 with ⟨h330, h329⟩ | ⟨h330, h329⟩
      · refine Wc.condT h330 (by kernel_rfl) ?_
        refine Wc.fix (st' := ⟨[(0, (.v (.str m318_), [])), (3, (.v (.int .i64 b319_), []))], [], []⟩) [] [0, 3] [] [] (by kernel_rfl) ?_
        refine Wc.skip ?_
        refine Wc.seq ?_
        refine Wc.block ?_
        refine Wc.seq ?_
        obtain ⟨h331, h329⟩ := oguard h329
        obtain ⟨l320_, h332, h329⟩ := obind h329
        rcases oif h329 with ⟨h333, h329⟩ | ⟨h333, h329⟩
        · refine Wc.region [{}, {}, {}, {}, { r := some (.v (.bool l320_) []) }, {}, { re := some (.bool true) }] [] [0, 3, 27] [] [] ⟨[(0, (.v (.str m318_), [])), (3, (.v (.int .i64 b319_), [])), (27, (.v (.bool true), []))], [], []⟩ _ (by kernel_rfl) (.cons h331 (.cons (cimpl_within h332) (.cons (congrArg AV.bool h333) .nil))) ?_
          refine Wc.condT rfl (by kernel_rfl) ?_
          refine Wc.seq ?_
          refine Wc.region [] [] [2] [] [] ⟨[(2, (.v (.bool false), []))], [], []⟩ _ (by kernel_rfl) .nil ?_
          refine Wc.ret ?_
          obtain rfl := Option.some.inj h329
          obtain rfl := Option.some.inj h
          exact ⟨.inl rfl, by kernel_rfl, by kernel_rfl⟩
        · obtain ⟨h334, h329⟩ := oguard h329
          rcases oif h329 with ⟨h335, h329⟩ | ⟨h335, h329⟩
          · refine Wc.region [{}, {}, {}, {}, { r := some (.v (.bool l320_) []) }, {}, { re := some (.bool false) }, {}, {}, {}, {}, {}, { re := some (.bool true) }] [] [0, 3, 27] [] [] ⟨[(0, (.v (.str m318_), [])), (3, (.v (.int .i64 b319_), [])), (27, (.v (.bool true), []))], [], []⟩ _ (by kernel_rfl) (.cons h331 (.cons (cimpl_within h332) (.cons (congrArg AV.bool h333) (.cons h334 (.cons (congrArg AV.bool h335) .nil))))) ?_
            refine Wc.condT rfl (by kernel_rfl) ?_
            refine Wc.seq ?_
            refine Wc.region [] [] [2] [] [] ⟨[(2, (.v (.bool false), []))], [], []⟩ _ (by kernel_rfl) .nil ?_
            refine Wc.ret ?_
            obtain rfl := Option.some.inj h329
            obtain rfl := Option.some.inj h
            exact ⟨.inl rfl, by kernel_rfl, by kernel_rfl⟩
          · obtain ⟨h336, h329⟩ := oguard h329
            refine Wc.region [{}, {}, {}, {}, { r := some (.v (.bool l320_) []) }, {}, { re := some (.bool false) }, {}, {}, {}, {}, {}, { re := some (.bool false) }] [] [0, 3, 27] [] [] ⟨[(0, (.v (.str m318_), [])), (3, (.v (.int .i64 b319_), [])), (27, (.v (.bool ((bt m318_ b319_) == 34)), []))], [], []⟩ _ (by kernel_rfl) (.cons h331 (.cons (cimpl_within h332) (.cons (congrArg AV.bool h333) (.cons h334 (.cons (congrArg AV.bool h335) (.cons h336 .nil)))))) ?_
            rcases oif h329 with ⟨h337, h329⟩ | ⟨h337, h329⟩
            · refine Wc.condT h337 (by kernel_rfl) ?_
              refine Wc.seq ?_
              refine Wc.region [] [] [2] [] [] ⟨[(2, (.v (.bool false), []))], [], []⟩ _ (by kernel_rfl) .nil ?_
              refine Wc.ret ?_
              obtain rfl := Option.some.inj h329
              obtain rfl := Option.some.inj h
              exact ⟨.inl rfl, by kernel_rfl, by kernel_rfl⟩
            · refine Wc.condF h337 (by kernel_rfl) ?_
              refine Wc.fix (st' := ⟨[(0, (.v (.str m318_), [])), (3, (.v (.int .i64 b319_), []))], [], []⟩) [] [0, 3] [] [] (by kernel_rfl) ?_
              refine Wc.skip ?_
              refine Wc.region [] [] [0, 3] [] [] ⟨[(0, (.v (.str m318_), [])), (3, (.v (.int .i64 (wr.i64 (b319_ + 1))), []))], [], []⟩ _ (by kernel_rfl) .nil ?_
              exact ⟨_, Nat.lt_succ_self _, _, rfl, h329⟩
      · refine Wc.condF h330 (by kernel_rfl) ?_
        refine Wc.fix (st' := ⟨[(0, (.v (.str m318_), []))], [], []⟩) [] [0] [] [] (by kernel_rfl) ?_
        refine Wc.exit ?_
        obtain rfl := Option.some.inj h329
        exact ⟨rfl, rfl⟩
  · rintro st ⟨rfl, rfl⟩
    refine Wc.seq ?_
    obtain ⟨l321_, h338, h⟩ := obind h
    refine Wc.region [{}, {}, { r := some (.v (.bool l321_) []) }] [] [2] [] [] ⟨[(2, (.v (.bool l321_), []))], [], []⟩ _ (by kernel_rfl) (.cons (cimpl_within h338) .nil) ?_
    refine Wc.ret ?_
    obtain rfl := Option.some.inj h
    exact ⟨.inl rfl, by kernel_rfl, by kernel_rfl⟩

def pimpl_sized_L2 (k : Nat) (rimpl_sized : GTerm → Int → Option Int) (j322_ : GTerm) (b323_ : Int) : Nat → Int → Int → Option (Out Int Int)
  | 0, _, _ => none
  | m + 1, b324_, b325_ =>
    if (decide (b325_ < (j322_.gKids.length : Int))) = true then
      (at' j322_.gKids b325_).bind fun j327_ =>
      (rimpl_sized j327_ (wr.i64 (b323_ + 1))).bind fun b328_ =>
      if (decide ((wr.i64 (b324_ + b328_)) > 400)) = true then
        some (.ret 401)
      else
        pimpl_sized_L2 k rimpl_sized j322_ b323_ m (wr.i64 (b324_ + b328_)) (wr.i64 (b325_ + 1))
    else
      some (.done b324_)
def pimpl_sized_J1 (k : Nat) (rimpl_sized : GTerm → Int → Option Int) (j322_ : GTerm) (b323_ : Int) : Option Int :=
  (pimpl_sized_L2 k rimpl_sized j322_ b323_ k 1 0).bind fun out2 => match out2 with
  | .ret r => some r
  | .done b326_ =>
    some b326_
mutual
/-- impl.sized -/
def pimpl_sized : Nat → GTerm → Int → Option Int
  | 0, _, _ => none
  | k + 1, j322_, b323_ =>
    if (decide (b323_ > 40)) = true then
      some 401
    else
      if (j322_.gKind == 1) = true then
        if (!(sEq j322_.gName (bs []))) = true then
          some 401
        else
          (pimpl_within k j322_.gNum 0 99999).bind fun l329_ =>
          if (!l329_) = true then
            some 401
          else
            if (decide ((j322_.gKids.length : Int) > 0)) = true then
              some 401
            else
              pimpl_sized_J1 k (pimpl_sized k) j322_ b323_
      else
        if (j322_.gKind == 2) = true then
          (pimpl_nameOk k j322_.gName).bind fun l330_ =>
          if (!l330_) = true then
            some 401
          else
            if (j322_.gNum != 0) = true then
              some 401
            else
              if (decide ((j322_.gKids.length : Int) > 0)) = true then
                some 401
              else
                pimpl_sized_J1 k (pimpl_sized k) j322_ b323_
        else
          if (j322_.gKind == 3) = true then
            if (!(sEq j322_.gName (bs []))) = true then
              some 401
            else
              (pimpl_within k j322_.gNum (-999999999) 999999999).bind fun l331_ =>
              if (!l331_) = true then
                some 401
              else
                if (decide ((j322_.gKids.length : Int) > 0)) = true then
                  some 401
                else
                  pimpl_sized_J1 k (pimpl_sized k) j322_ b323_
          else
            if (j322_.gKind == 4) = true then
              (pimpl_nameOk k j322_.gName).bind fun l332_ =>
              if (!l332_) = true then
                some 401
              else
                if (j322_.gNum != 0) = true then
                  some 401
                else
                  (pimpl_within k (j322_.gKids.length : Int) 1 5).bind fun l333_ =>
                  if (!l333_) = true then
                    some 401
                  else
                    pimpl_sized_J1 k (pimpl_sized k) j322_ b323_
            else
              some 401
end
set_option maxHeartbeats 4000000 in
theorem all_pimpl_sized : ∀ k : Nat, (∀ {j322_ : GTerm} {b323_ : Int} {r : Int}, pimpl_sized k j322_ b323_ = some r → FnO Try.prog 125 [.v (.agg [.int .i64 j322_.gKind, .str j322_.gName, .int .i64 j322_.gNum, .sl (List.map GTerm.c j322_.gKids)]) [], .v (.int .i64 b323_) []] (.v (.int .i64 r) []) []) := by
  intro k
  induction k with
  | zero =>
    · intro j322_ b323_ r h
      exact (onone (by rw [pimpl_sized] at h; exact h)).elim
  | succ k ih =>
    have ih_pimpl_sized := @ih
    · intro j322_ b323_ r h
      rw [pimpl_sized] at h
      refine FnO.of Try.func125 (rfl : Try.f125.body = some _) (Nat.le_of_ble_eq_true (by kernel_rfl)) (Nat.le_of_ble_eq_true (by kernel_rfl)) ?_
      intro w0 X0 Fin pv0 pb
      refine Wc.seq ?_
      refine Wc.region [] [] [1, 2] [2] [] ⟨[(1, (.v (.int .i64 b323_), [])), (2, (.ptr 2 0, []))], [(2, .cells [.int .i64 j322_.gKind, .str j322_.gName, .int .i64 j322_.gNum, .sl (List.map GTerm.c j322_.gKids)] [])], []⟩ _ (by kernel_rfl) .nil ?_
      refine Wc.seq ?_
      refine Wc.seq ?_
      refine Wc.region [] [] [1, 2, 9] [2] [] ⟨[(1, (.v (.int .i64 b323_), [])), (2, (.ptr 2 0, [])), (9, (.v (.bool (decide (b323_ > 40))), []))], [(2, .cells [.int .i64 j322_.gKind, .str j322_.gName, .int .i64 j322_.gNum, .sl (List.map GTerm.c j322_.gKids)] [])], []⟩ _ (by kernel_rfl) .nil ?_
      rcases oif h with ⟨h339, h⟩ | ⟨h339, h⟩
      · refine Wc.condT h339 (by kernel_rfl) ?_
        refine Wc.seq ?_
        refine Wc.region [] [] [4] [] [] ⟨[(4, (.v (.int .i64 401), []))], [], []⟩ _ (by kernel_rfl) .nil ?_
        refine Wc.ret ?_
        obtain rfl := Option.some.inj h
        exact ⟨.inl rfl, by kernel_rfl, by kernel_rfl⟩
      · refine Wc.condF h339 (by kernel_rfl) ?_
        refine Wc.fix (st' := ⟨[(1, (.v (.int .i64 b323_), [])), (2, (.ptr 2 0, []))], [(2, .cells [.int .i64 j322_.gKind, .str j322_.gName, .int .i64 j322_.gNum, .sl (List.map GTerm.c j322_.gKids)] [])], []⟩) [] [1, 2] [2] [] (by kernel_rfl) ?_
        refine Wc.skip ?_
        refine Wc.seqJ (fun st => st = ⟨[(1, (.v (.int .i64 b323_), [])), (2, (.ptr 2 0, []))], [(2, .cells [.int .i64 j322_.gKind, .str j322_.gName, .int .i64 j322_.gNum, .sl (List.map GTerm.c j322_.gKids)] [])], []⟩ ∧ pimpl_sized_J1 k (pimpl_sized k) j322_ b323_ = some r) ?_ ?_
        · refine Wc.seq ?_
          refine Wc.region [] [] [1, 2, 11] [2] [] ⟨[(1, (.v (.int .i64 b323_), [])), (2, (.ptr 2 0, [])), (11, (.v (.int .i64 j322_.gKind), []))], [(2, .cells [.int .i64 j322_.gKind, .str j322_.gName, .int .i64 j322_.gNum, .sl (List.map GTerm.c j322_.gKids)] [])], []⟩ _ (by kernel_rfl) .nil ?_
          refine Wc.block ?_
          refine Wc.seq ?_
          refine Wc.region [] [] [1, 2, 11, 12] [2] [] ⟨[(1, (.v (.int .i64 b323_), [])), (2, (.ptr 2 0, [])), (11, (.v (.int .i64 j322_.gKind), [])), (12, (.v (.bool (j322_.gKind == 1)), []))], [(2, .cells [.int .i64 j322_.gKind, .str j322_.gName, .int .i64 j322_.gNum, .sl (List.map GTerm.c j322_.gKids)] [])], []⟩ _ (by kernel_rfl) .nil ?_
          rcases oif h with ⟨h345, h⟩ | ⟨h345, h⟩
          · refine Wc.condT h345 (by kernel_rfl) ?_
            refine Wc.seq ?_
            rcases oif h with ⟨h346, h⟩ | ⟨h346, h⟩
            · refine Wc.region [{}, {}, {}, { re := some (.bool true) }] [] [1, 2, 28] [2] [] ⟨[(1, (.v (.int .i64 b323_), [])), (2, (.ptr 2 0, [])), (28, (.v (.bool true), []))], [(2, .cells [.int .i64 j322_.gKind, .str j322_.gName, .int .i64 j322_.gNum, .sl (List.map GTerm.c j322_.gKids)] [])], []⟩ _ (by kernel_rfl) (.cons (congrArg AV.bool h346) .nil) ?_
              refine Wc.condT rfl (by kernel_rfl) ?_
              refine Wc.seq ?_
              refine Wc.region [] [] [4] [] [] ⟨[(4, (.v (.int .i64 401), []))], [], []⟩ _ (by kernel_rfl) .nil ?_
              refine Wc.ret ?_
              obtain rfl := Option.some.inj h
              exact ⟨.inl rfl, by kernel_rfl, by kernel_rfl⟩
            · obtain ⟨l329_, h347, h⟩ := obind h
              rcases oif h with ⟨h348, h⟩ | ⟨h348, h⟩
              · refine Wc.region [{}, {}, {}, { re := some (.bool false) }, {}, {}, { r := some (.v (.bool l329_) []) }, {}, {}, { re := some (.bool true) }] [] [1, 2, 28] [2] [] ⟨[(1, (.v (.int .i64 b323_), [])), (2, (.ptr 2 0, [])), (28, (.v (.bool true), []))], [(2, .cells [.int .i64 j322_.gKind, .str j322_.gName, .int .i64 j322_.gNum, .sl (List.map GTerm.c j322_.gKids)] [])], []⟩ _ (by kernel_rfl) (.cons (congrArg AV.bool h346) (.cons (cimpl_within h347) (.cons (congrArg AV.bool h348) .nil))) ?_
                refine Wc.condT rfl (by kernel_rfl) ?_
                refine Wc.seq ?_
                refine Wc.region [] [] [4] [] [] ⟨[(4, (.v (.int .i64 401), []))], [], []⟩ _ (by kernel_rfl) .nil ?_
                refine Wc.ret ?_
                obtain rfl := Option.some.inj h
                exact ⟨.inl rfl, by kernel_rfl, by kernel_rfl⟩
              · refine Wc.region [{}, {}, {}, { re := some (.bool false) }, {}, {}, { r := some (.v (.bool l329_) []) }, {}, {}, { re := some (.bool false) }, {}, {}, { v := some (.int .i64 (j322_.gKids.length : Int)) }] [] [1, 2, 28] [2] [] ⟨[(1, (.v (.int .i64 b323_), [])), (2, (.ptr 2 0, [])), (28, (.v (.bool (decide ((j322_.gKids.length : Int) > 0))), []))], [(2, .cells [.int .i64 j322_.gKind, .str j322_.gName, .int .i64 j322_.gNum, .sl (List.map GTerm.c j322_.gKids)] [])], []⟩ _ (by kernel_rfl) (.cons (congrArg AV.bool h346) (.cons (cimpl_within h347) (.cons (congrArg AV.bool h348) (.cons (len_obl GTerm.c j322_.gKids) .nil)))) ?_
                rcases oif h with ⟨h349, h⟩ | ⟨h349, h⟩
                · refine Wc.condT h349 (by kernel_rfl) ?_
                  refine Wc.seq ?_
                  refine Wc.region [] [] [4] [] [] ⟨[(4, (.v (.int .i64 401), []))], [], []⟩ _ (by kernel_rfl) .nil ?_
                  refine Wc.ret ?_
                  obtain rfl := Option.some.inj h
                  exact ⟨.inl rfl, by kernel_rfl, by kernel_rfl⟩
                · refine Wc.condF h349 (by kernel_rfl) ?_
                  refine Wc.fix (st' := ⟨[(1, (.v (.int .i64 b323_), [])), (2, (.ptr 2 0, []))], [(2, .cells [.int .i64 j322_.gKind, .str j322_.gName, .int .i64 j322_.gNum, .sl (List.map GTerm.c j322_.gKids)] [])], []⟩) [] [1, 2] [2] [] (by kernel_rfl) ?_
                  refine Wc.skip ?_
                  exact ⟨rfl, h⟩
          · refine Wc.condF h345 (by kernel_rfl) ?_
            refine Wc.seq ?_
            refine Wc.region [] [] [1, 2, 11, 29] [2] [] ⟨[(1, (.v (.int .i64 b323_), [])), (2, (.ptr 2 0, [])), (11, (.v (.int .i64 j322_.gKind), [])), (29, (.v (.bool (j322_.gKind == 2)), []))], [(2, .cells [.int .i64 j322_.gKind, .str j322_.gName, .int .i64 j322_.gNum, .sl (List.map GTerm.c j322_.gKids)] [])], []⟩ _ (by kernel_rfl) .nil ?_
            rcases oif h with ⟨h350, h⟩ | ⟨h350, h⟩
            · refine Wc.condT h350 (by kernel_rfl) ?_
              refine Wc.seq ?_
              obtain ⟨l330_, h351, h⟩ := obind h
              rcases oif h with ⟨h352, h⟩ | ⟨h352, h⟩
              · refine Wc.region [{}, {}, { r := some (.v (.bool l330_) []) }, {}, { re := some (.bool true) }] [] [1, 2, 45] [2] [] ⟨[(1, (.v (.int .i64 b323_), [])), (2, (.ptr 2 0, [])), (45, (.v (.bool true), []))], [(2, .cells [.int .i64 j322_.gKind, .str j322_.gName, .int .i64 j322_.gNum, .sl (List.map GTerm.c j322_.gKids)] [])], []⟩ _ (by kernel_rfl) (.cons (cimpl_nameOk h351) (.cons (congrArg AV.bool h352) .nil)) ?_
                refine Wc.condT rfl (by kernel_rfl) ?_
                refine Wc.seq ?_
                refine Wc.region [] [] [4] [] [] ⟨[(4, (.v (.int .i64 401), []))], [], []⟩ _ (by kernel_rfl) .nil ?_
                refine Wc.ret ?_
                obtain rfl := Option.some.inj h
                exact ⟨.inl rfl, by kernel_rfl, by kernel_rfl⟩
              · rcases oif h with ⟨h353, h⟩ | ⟨h353, h⟩
                · refine Wc.region [{}, {}, { r := some (.v (.bool l330_) []) }, {}, { re := some (.bool false) }, {}, {}, {}, {}, { re := some (.bool true) }] [] [1, 2, 45] [2] [] ⟨[(1, (.v (.int .i64 b323_), [])), (2, (.ptr 2 0, [])), (45, (.v (.bool true), []))], [(2, .cells [.int .i64 j322_.gKind, .str j322_.gName, .int .i64 j322_.gNum, .sl (List.map GTerm.c j322_.gKids)] [])], []⟩ _ (by kernel_rfl) (.cons (cimpl_nameOk h351) (.cons (congrArg AV.bool h352) (.cons (congrArg AV.bool h353) .nil))) ?_
                  refine Wc.condT rfl (by kernel_rfl) ?_
                  refine Wc.seq ?_
                  refine Wc.region [] [] [4] [] [] ⟨[(4, (.v (.int .i64 401), []))], [], []⟩ _ (by kernel_rfl) .nil ?_
                  refine Wc.ret ?_
                  obtain rfl := Option.some.inj h
                  exact ⟨.inl rfl, by kernel_rfl, by kernel_rfl⟩
                · refine Wc.region [{}, {}, { r := some (.v (.bool l330_) []) }, {}, { re := some (.bool false) }, {}, {}, {}, {}, { re := some (.bool false) }, {}, {}, { v := some (.int .i64 (j322_.gKids.length : Int)) }] [] [1, 2, 45] [2] [] ⟨[(1, (.v (.int .i64 b323_), [])), (2, (.ptr 2 0, [])), (45, (.v (.bool (decide ((j322_.gKids.length : Int) > 0))), []))], [(2, .cells [.int .i64 j322_.gKind, .str j322_.gName, .int .i64 j322_.gNum, .sl (List.map GTerm.c j322_.gKids)] [])], []⟩ _ (by kernel_rfl) (.cons (cimpl_nameOk h351) (.cons (congrArg AV.bool h352) (.cons (congrArg AV.bool h353) (.cons (len_obl GTerm.c j322_.gKids) .nil)))) ?_
                  rcases oif h with ⟨h354, h⟩ | ⟨h354, h⟩
                  · refine Wc.condT h354 (by kernel_rfl) ?_
                    refine Wc.seq ?_
                    refine Wc.region [] [] [4] [] [] ⟨[(4, (.v (.int .i64 401), []))], [], []⟩ _ (by kernel_rfl) .nil ?_
                    refine Wc.ret ?_
                    obtain rfl := Option.some.inj h
                    exact ⟨.inl rfl, by kernel_rfl, by kernel_rfl⟩
                  · refine Wc.condF h354 (by kernel_rfl) ?_
                    refine Wc.fix (st' := ⟨[(1, (.v (.int .i64 b323_), [])), (2, (.ptr 2 0, []))], [(2, .cells [.int .i64 j322_.gKind, .str j322_.gName, .int .i64 j322_.gNum, .sl (List.map GTerm.c j322_.gKids)] [])], []⟩) [] [1, 2] [2] [] (by kernel_rfl) ?_
                    refine Wc.skip ?_
                    exact ⟨rfl, h⟩
            · refine Wc.condF h350 (by kernel_rfl) ?_
              refine Wc.seq ?_
              refine Wc.region [] [] [1, 2, 11, 46] [2] [] ⟨[(1, (.v (.int .i64 b323_), [])), (2, (.ptr 2 0, [])), (11, (.v (.int .i64 j322_.gKind), [])), (46, (.v (.bool (j322_.gKind == 3)), []))], [(2, .cells [.int .i64 j322_.gKind, .str j322_.gName, .int .i64 j322_.gNum, .sl (List.map GTerm.c j322_.gKids)] [])], []⟩ _ (by kernel_rfl) .nil ?_
              rcases oif h with ⟨h355, h⟩ | ⟨h355, h⟩
              · refine Wc.condT h355 (by kernel_rfl) ?_
                refine Wc.seq ?_
                rcases oif h with ⟨h356, h⟩ | ⟨h356, h⟩
                · refine Wc.region [{}, {}, {}, { re := some (.bool true) }] [] [1, 2, 62] [2] [] ⟨[(1, (.v (.int .i64 b323_), [])), (2, (.ptr 2 0, [])), (62, (.v (.bool true), []))], [(2, .cells [.int .i64 j322_.gKind, .str j322_.gName, .int .i64 j322_.gNum, .sl (List.map GTerm.c j322_.gKids)] [])], []⟩ _ (by kernel_rfl) (.cons (congrArg AV.bool h356) .nil) ?_
                  refine Wc.condT rfl (by kernel_rfl) ?_
                  refine Wc.seq ?_
                  refine Wc.region [] [] [4] [] [] ⟨[(4, (.v (.int .i64 401), []))], [], []⟩ _ (by kernel_rfl) .nil ?_
                  refine Wc.ret ?_
                  obtain rfl := Option.some.inj h
                  exact ⟨.inl rfl, by kernel_rfl, by kernel_rfl⟩
                · obtain ⟨l331_, h357, h⟩ := obind h
                  rcases oif h with ⟨h358, h⟩ | ⟨h358, h⟩
                  · refine Wc.region [{}, {}, {}, { re := some (.bool false) }, {}, {}, { r := some (.v (.bool l331_) []) }, {}, {}, { re := some (.bool true) }] [] [1, 2, 62] [2] [] ⟨[(1, (.v (.int .i64 b323_), [])), (2, (.ptr 2 0, [])), (62, (.v (.bool true), []))], [(2, .cells [.int .i64 j322_.gKind, .str j322_.gName, .int .i64 j322_.gNum, .sl (List.map GTerm.c j322_.gKids)] [])], []⟩ _ (by kernel_rfl) (.cons (congrArg AV.bool h356) (.cons (cimpl_within h357) (.cons (congrArg AV.bool h358) .nil))) ?_
                    refine Wc.condT rfl (by kernel_rfl) ?_
                    refine Wc.seq ?_
                    refine Wc.region [] [] [4] [] [] ⟨[(4, (.v (.int .i64 401), []))], [], []⟩ _ (by kernel_rfl) .nil ?_
                    refine Wc.ret ?_
                    obtain rfl := Option.some.inj h
                    exact ⟨.inl rfl, by kernel_rfl, by kernel_rfl⟩
                  · refine Wc.region [{}, {}, {}, { re := some (.bool false) }, {}, {}, { r := some (.v (.bool l331_) []) }, {}, {}, { re := some (.bool false) }, {}, {}, { v := some (.int .i64 (j322_.gKids.length : Int)) }] [] [1, 2, 62] [2] [] ⟨[(1, (.v (.int .i64 b323_), [])), (2, (.ptr 2 0, [])), (62, (.v (.bool (decide ((j322_.gKids.length : Int) > 0))), []))], [(2, .cells [.int .i64 j322_.gKind, .str j322_.gName, .int .i64 j322_.gNum, .sl (List.map GTerm.c j322_.gKids)] [])], []⟩ _ (by kernel_rfl) (.cons (congrArg AV.bool h356) (.cons (cimpl_within h357) (.cons (congrArg AV.bool h358) (.cons (len_obl GTerm.c j322_.gKids) .nil)))) ?_
                    rcases oif h with ⟨h359, h⟩ | ⟨h359, h⟩
                    · refine Wc.condT h359 (by kernel_rfl) ?_
                      refine Wc.seq ?_
                      refine Wc.region [] [] [4] [] [] ⟨[(4, (.v (.int .i64 401), []))], [], []⟩ _ (by kernel_rfl) .nil ?_
                      refine Wc.ret ?_
                      obtain rfl := Option.some.inj h
                      exact ⟨.inl rfl, by kernel_rfl, by kernel_rfl⟩
                    · refine Wc.condF h359 (by kernel_rfl) ?_
                      refine Wc.fix (st' := ⟨[(1, (.v (.int .i64 b323_), [])), (2, (.ptr 2 0, []))], [(2, .cells [.int .i64 j322_.gKind, .str j322_.gName, .int .i64 j322_.gNum, .sl (List.map GTerm.c j322_.gKids)] [])], []⟩) [] [1, 2] [2] [] (by kernel_rfl) ?_
                      refine Wc.skip ?_
                      exact ⟨rfl, h⟩
              · refine Wc.condF h355 (by kernel_rfl) ?_
                refine Wc.seq ?_
                refine Wc.region [] [] [1, 2, 63] [2] [] ⟨[(1, (.v (.int .i64 b323_), [])), (2, (.ptr 2 0, [])), (63, (.v (.bool (j322_.gKind == 4)), []))], [(2, .cells [.int .i64 j322_.gKind, .str j322_.gName, .int .i64 j322_.gNum, .sl (List.map GTerm.c j322_.gKids)] [])], []⟩ _ (by kernel_rfl) .nil ?_
                rcases oif h with ⟨h360, h⟩ | ⟨h360, h⟩
                · refine Wc.condT h360 (by kernel_rfl) ?_
                  refine Wc.seq ?_
                  obtain ⟨l332_, h361, h⟩ := obind h
                  rcases oif h with ⟨h362, h⟩ | ⟨h362, h⟩
                  · refine Wc.region [{}, {}, { r := some (.v (.bool l332_) []) }, {}, { re := some (.bool true) }] [] [1, 2, 80] [2] [] ⟨[(1, (.v (.int .i64 b323_), [])), (2, (.ptr 2 0, [])), (80, (.v (.bool true), []))], [(2, .cells [.int .i64 j322_.gKind, .str j322_.gName, .int .i64 j322_.gNum, .sl (List.map GTerm.c j322_.gKids)] [])], []⟩ _ (by kernel_rfl) (.cons (cimpl_nameOk h361) (.cons (congrArg AV.bool h362) .nil)) ?_
                    refine Wc.condT rfl (by kernel_rfl) ?_
                    refine Wc.seq ?_
                    refine Wc.region [] [] [4] [] [] ⟨[(4, (.v (.int .i64 401), []))], [], []⟩ _ (by kernel_rfl) .nil ?_
                    refine Wc.ret ?_
                    obtain rfl := Option.some.inj h
                    exact ⟨.inl rfl, by kernel_rfl, by kernel_rfl⟩
                  · rcases oif h with ⟨h363, h⟩ | ⟨h363, h⟩
                    · refine Wc.region [{}, {}, { r := some (.v (.bool l332_) []) }, {}, { re := some (.bool false) }, {}, {}, {}, {}, { re := some (.bool true) }] [] [1, 2, 80] [2] [] ⟨[(1, (.v (.int .i64 b323_), [])), (2, (.ptr 2 0, [])), (80, (.v (.bool true), []))], [(2, .cells [.int .i64 j322_.gKind, .str j322_.gName, .int .i64 j322_.gNum, .sl (List.map GTerm.c j322_.gKids)] [])], []⟩ _ (by kernel_rfl) (.cons (cimpl_nameOk h361) (.cons (congrArg AV.bool h362) (.cons (congrArg AV.bool h363) .nil))) ?_
                      refine Wc.condT rfl (by kernel_rfl) ?_
                      refine Wc.seq ?_
                      refine Wc.region [] [] [4] [] [] ⟨[(4, (.v (.int .i64 401), []))], [], []⟩ _ (by kernel_rfl) .nil ?_
                      refine Wc.ret ?_
                      obtain rfl := Option.some.inj h
                      exact ⟨.inl rfl, by kernel_rfl, by kernel_rfl⟩
                    · obtain ⟨l333_, h364, h⟩ := obind h
                      refine Wc.region [{}, {}, { r := some (.v (.bool l332_) []) }, {}, { re := some (.bool false) }, {}, {}, {}, {}, { re := some (.bool false) }, {}, {}, { v := some (.int .i64 (j322_.gKids.length : Int)) }, { r := some (.v (.bool l333_) []) }] [] [1, 2, 80] [2] [] ⟨[(1, (.v (.int .i64 b323_), [])), (2, (.ptr 2 0, [])), (80, (.v (.bool (!l333_)), []))], [(2, .cells [.int .i64 j322_.gKind, .str j322_.gName, .int .i64 j322_.gNum, .sl (List.map GTerm.c j322_.gKids)] [])], []⟩ _ (by kernel_rfl) (.cons (cimpl_nameOk h361) (.cons (congrArg AV.bool h362) (.cons (congrArg AV.bool h363) (.cons (len_obl GTerm.c j322_.gKids) (.cons (cimpl_within h364) .nil))))) ?_
                      rcases oif h with ⟨h365, h⟩ | ⟨h365, h⟩
                      · refine Wc.condT h365 (by kernel_rfl) ?_
                        refine Wc.seq ?_
                        refine Wc.region [] [] [4] [] [] ⟨[(4, (.v (.int .i64 401), []))], [], []⟩ _ (by kernel_rfl) .nil ?_
                        refine Wc.ret ?_
                        obtain rfl := Option.some.inj h
                        exact ⟨.inl rfl, by kernel_rfl, by kernel_rfl⟩
                      · refine Wc.condF h365 (by kernel_rfl) ?_
                        refine Wc.fix (st' := ⟨[(1, (.v (.int .i64 b323_), [])), (2, (.ptr 2 0, []))], [(2, .cells [.int .i64 j322_.gKind, .str j322_.gName, .int .i64 j322_.gNum, .sl (List.map GTerm.c j322_.gKids)] [])], []⟩) [] [1, 2] [2] [] (by kernel_rfl) ?_
                        refine Wc.skip ?_
                        exact ⟨rfl, h⟩
                · refine Wc.condF h360 (by kernel_rfl) ?_
                  refine Wc.seq ?_
                  refine Wc.region [] [] [4] [] [] ⟨[(4, (.v (.int .i64 401), []))], [], []⟩ _ (by kernel_rfl) .nil ?_
                  refine Wc.ret ?_
                  obtain rfl := Option.some.inj h
                  exact ⟨.inl rfl, by kernel_rfl, by kernel_rfl⟩
        · rintro st ⟨rfl, h⟩
          refine Wc.seq ?_
          refine Wc.region [] [] [1, 2, 5] [2] [] ⟨[(1, (.v (.int .i64 b323_), [])), (2, (.ptr 2 0, [])), (5, (.v (.int .i64 1), []))], [(2, .cells [.int .i64 j322_.gKind, .str j322_.gName, .int .i64 j322_.gNum, .sl (List.map GTerm.c j322_.gKids)] [])], []⟩ _ (by kernel_rfl) .nil ?_
          refine Wc.seq ?_
          refine Wc.seq ?_
          refine Wc.region [{}, {}, { v := some (.int .i64 (j322_.gKids.length : Int)) }] [] [1, 5, 82, 83, 84] [] [] ⟨[(1, (.v (.int .i64 b323_), [])), (5, (.v (.int .i64 1), [])), (82, (.v (.sl (List.map GTerm.c j322_.gKids)), [])), (83, (.v (.int .i64 (j322_.gKids.length : Int)), [])), (84, (.v (.int .i64 0), []))], [], []⟩ _ (by kernel_rfl) (.cons (len_obl GTerm.c j322_.gKids) .nil) ?_
          obtain ⟨out2, h340, h⟩ := obind h
          refine Wc.lastJ (fun st => ∃ (b326_ : Int), out2 = .done b326_ ∧ st = ⟨[(5, (.v (.int .i64 b326_), []))], [], []⟩) ?_ ?_
          · refine Wc.block ?_
            refine Wc.loop (fun m st => ∃ (b324_ : Int) (b325_ : Int), st = ⟨[(1, (.v (.int .i64 b323_), [])), (5, (.v (.int .i64 b324_), [])), (82, (.v (.sl (List.map GTerm.c j322_.gKids)), [])), (83, (.v (.int .i64 (j322_.gKids.length : Int)), [])), (84, (.v (.int .i64 b325_), []))], [], []⟩ ∧ pimpl_sized_L2 k (pimpl_sized k) j322_ b323_ m b324_ b325_ = some out2) ?_ k ⟨_, _, rfl, h340⟩
            rintro m st ⟨b324_, b325_, rfl, h340⟩
            cases m with
            | zero => exact (onone h340).elim
            | succ m =>
              refine Wc.seq ?_
              refine Wc.region [] [] [1, 5, 82, 83, 84, 85] [] [] ⟨[(1, (.v (.int .i64 b323_), [])), (5, (.v (.int .i64 b324_), [])), (82, (.v (.sl (List.map GTerm.c j322_.gKids)), [])), (83, (.v (.int .i64 (j322_.gKids.length : Int)), [])), (84, (.v (.int .i64 b325_), [])), (85, (.v (.bool (decide (b325_ < (j322_.gKids.length : Int)))), []))], [], []⟩ _ (by kernel_rfl) .nil ?_
              refine Wc.seq ?_
              rcases oif h340 with ⟨h341, h340⟩ | ⟨h341, h340⟩
              · refine Wc.condT h341 (by kernel_rfl) ?_
                refine Wc.fix (st' := ⟨[(1, (.v (.int .i64 b323_), [])), (5, (.v (.int .i64 b324_), [])), (82, (.v (.sl (List.map GTerm.c j322_.gKids)), [])), (83, (.v (.int .i64 (j322_.gKids.length : Int)), [])), (84, (.v (.int .i64 b325_), []))], [], []⟩) [] [1, 5, 82, 83, 84] [] [] (by kernel_rfl) ?_
                refine Wc.skip ?_
                refine Wc.seq ?_
                refine Wc.block ?_
                refine Wc.seq ?_
                obtain ⟨j327_, h342, h340⟩ := obind h340
                refine Wc.region [{ v := some (.vptr [.int .i64 j327_.gKind, .str j327_.gName, .int .i64 j327_.gNum, .sl (List.map GTerm.c j327_.gKids)]) }] [] [1, 5, 7, 82, 83, 84] [7] [] ⟨[(1, (.v (.int .i64 b323_), [])), (5, (.v (.int .i64 b324_), [])), (7, (.ptr 7 0, [])), (82, (.v (.sl (List.map GTerm.c j322_.gKids)), [])), (83, (.v (.int .i64 (j322_.gKids.length : Int)), [])), (84, (.v (.int .i64 b325_), []))], [(7, .cells [.int .i64 j327_.gKind, .str j327_.gName, .int .i64 j327_.gNum, .sl (List.map GTerm.c j327_.gKids)] [])], []⟩ _ (by kernel_rfl) (.cons (at_obl (c := GTerm.c) (GTerm.c_eq j327_) GTerm.c_len h342) (.cons (len_ok 4 [.int .i64 j327_.gKind, .str j327_.gName, .int .i64 j327_.gNum, .sl (List.map GTerm.c j327_.gKids)]) .nil)) ?_
                refine Wc.seq ?_
                obtain ⟨b328_, h343, h340⟩ := obind h340
                refine Wc.region [{}, {}, {}, {}, { r := some (.v (.int .i64 b328_) []) }] [] [1, 5, 82, 83, 84] [] [] ⟨[(1, (.v (.int .i64 b323_), [])), (5, (.v (.int .i64 (wr.i64 (b324_ + b328_))), [])), (82, (.v (.sl (List.map GTerm.c j322_.gKids)), [])), (83, (.v (.int .i64 (j322_.gKids.length : Int)), [])), (84, (.v (.int .i64 b325_), []))], [], []⟩ _ (by kernel_rfl) (.cons (ih_pimpl_sized h343) .nil) ?_
                refine Wc.seq ?_
                refine Wc.region [] [] [1, 5, 82, 83, 84, 95] [] [] ⟨[(1, (.v (.int .i64 b323_), [])), (5, (.v (.int .i64 (wr.i64 (b324_ + b328_))), [])), (82, (.v (.sl (List.map GTerm.c j322_.gKids)), [])), (83, (.v (.int .i64 (j322_.gKids.length : Int)), [])), (84, (.v (.int .i64 b325_), [])), (95, (.v (.bool (decide ((wr.i64 (b324_ + b328_)) > 400))), []))], [], []⟩ _ (by kernel_rfl) .nil ?_
                rcases oif h340 with ⟨h344, h340⟩ | ⟨h344, h340⟩
                · refine Wc.condT h344 (by kernel_rfl) ?_
                  refine Wc.seq ?_
                  refine Wc.region [] [] [4] [] [] ⟨[(4, (.v (.int .i64 401), []))], [], []⟩ _ (by kernel_rfl) .nil ?_
                  refine Wc.ret ?_
                  obtain rfl := Option.some.inj h340
                  obtain rfl := Option.some.inj h
                  exact ⟨.inl rfl, by kernel_rfl, by kernel_rfl⟩
                · refine Wc.condF h344 (by kernel_rfl) ?_
                  refine Wc.fix (st' := ⟨[(1, (.v (.int .i64 b323_), [])), (5, (.v (.int .i64 (wr.i64 (b324_ + b328_))), [])), (82, (.v (.sl (List.map GTerm.c j322_.gKids)), [])), (83, (.v (.int .i64 (j322_.gKids.length : Int)), [])), (84, (.v (.int .i64 b325_), []))], [], []⟩) [] [1, 5, 82, 83, 84] [] [] (by kernel_rfl) ?_
                  refine Wc.skip ?_
                  refine Wc.region [] [] [1, 5, 82, 83, 84] [] [] ⟨[(1, (.v (.int .i64 b323_), [])), (5, (.v (.int .i64 (wr.i64 (b324_ + b328_))), [])), (82, (.v (.sl (List.map GTerm.c j322_.gKids)), [])), (83, (.v (.int .i64 (j322_.gKids.length : Int)), [])), (84, (.v (.int .i64 (wr.i64 (b325_ + 1))), []))], [], []⟩ _ (by kernel_rfl) .nil ?_
                  exact ⟨_, Nat.lt_succ_self _, _, _, rfl, h340⟩
              · refine Wc.condF h341 (by kernel_rfl) ?_
                refine Wc.fix (st' := ⟨[(5, (.v (.int .i64 b324_), []))], [], []⟩) [] [5] [] [] (by kernel_rfl) ?_
                refine Wc.exit ?_
                obtain rfl := Option.some.inj h340
                exact ⟨_, rfl, rfl⟩
          · rintro st ⟨b326_, rfl, rfl⟩
            refine Wc.seq ?_
            refine Wc.region [] [] [4] [] [] ⟨[(4, (.v (.int .i64 b326_), []))], [], []⟩ _ (by kernel_rfl) .nil ?_
            refine Wc.ret ?_
            obtain rfl := Option.some.inj h
            exact ⟨.inl rfl, by kernel_rfl, by kernel_rfl⟩
theorem cimpl_sized {k : Nat} {j322_ : GTerm} {b323_ : Int} {r : Int} (h : pimpl_sized k j322_ b323_ = some r) : FnO Try.prog 125 [.v (.agg [.int .i64 j322_.gKind, .str j322_.gName, .int .i64 j322_.gNum, .sl (List.map GTerm.c j322_.gKids)]) [], .v (.int .i64 b323_) []] (.v (.int .i64 r) []) [] := (all_pimpl_sized k) h

/-- impl.TermOk -/
def pimpl_TermOk (k : Nat) (j334_ : GTerm) : Option Bool :=
  (pimpl_sized k j334_ 1).bind fun b335_ =>
  some (decide (b335_ ≤ 400))
theorem cimpl_TermOk {k : Nat} {j334_ : GTerm} {r : Bool} (h : pimpl_TermOk k j334_ = some r) : FnO Try.prog 81 [.v (.agg [.int .i64 j334_.gKind, .str j334_.gName, .int .i64 j334_.gNum, .sl (List.map GTerm.c j334_.gKids)]) []] (.v (.bool r) []) [] := by
  refine FnO.of Try.func81 (rfl : Try.f81.body = some _) (Nat.le_of_ble_eq_true (by kernel_rfl)) (Nat.le_of_ble_eq_true (by kernel_rfl)) ?_
  intro w0 X0 Fin pv0 pb
  unfold pimpl_TermOk at h
  refine Wc.seq ?_
  refine Wc.region [] [] [1] [1] [] ⟨[(1, (.ptr 1 0, []))], [(1, .cells [.int .i64 j334_.gKind, .str j334_.gName, .int .i64 j334_.gNum, .sl (List.map GTerm.c j334_.gKids)] [])], []⟩ _ (by kernel_rfl) .nil ?_
  refine Wc.seq ?_
  obtain ⟨b335_, h366, h⟩ := obind h
  refine Wc.region [{}, { r := some (.v (.int .i64 b335_) []) }] [] [2] [] [] ⟨[(2, (.v (.bool (decide (b335_ ≤ 400))), []))], [], []⟩ _ (by kernel_rfl) (.cons (cimpl_sized h366) .nil) ?_
  refine Wc.ret ?_
  obtain rfl := Option.some.inj h
  exact ⟨.inl rfl, by kernel_rfl, by kernel_rfl⟩

def pimpl_copyHeap_L1 (k : Nat) (e341_ : GHeap) : Nat → Int → GHeap → Option (Out GHeap GHeap)
  | 0, _, _ => none
  | m + 1, b342_, e343_ =>
    if (decide (b342_ < (e341_.gCells.length : Int))) = true then
      (at' e341_.gCells b342_).bind fun c345_ =>
      if ([] : List Int).length + c345_.gKids.length ≤ 1073741824 then
        if e343_.gCells.length + [c345_].length ≤ 1073741824 then
          pimpl_copyHeap_L1 k e341_ m (wr.i64 (b342_ + 1)) (GHeap.mk (e343_.gCells ++ [c345_]) e343_.gTrail)
        else none
      else none
    else
      some (.done e343_)
/-- impl.copyHeap -/
def pimpl_copyHeap (k : Nat) (e341_ : GHeap) : Option GHeap :=
  if ([] : List Int).length + e341_.gTrail.length ≤ 1073741824 then
    (pimpl_copyHeap_L1 k e341_ k 0 (GHeap.mk [] e341_.gTrail)).bind fun out1 => match out1 with
    | .ret r => some r
    | .done e344_ =>
      some e344_
  else none
theorem cimpl_copyHeap {k : Nat} {e341_ : GHeap} {r : GHeap} (h : pimpl_copyHeap k e341_ = some r) : FnO Try.prog 91 [.v (.agg [.sl (List.map GCell.c e341_.gCells), .sl (List.map cI.i64 e341_.gTrail)]) []] (.v (.agg [.sl (List.map GCell.c r.gCells), .sl (List.map cI.i64 r.gTrail)]) [(0, .app 139), (1, .app 3)]) [] := by
  refine FnO.of Try.func91 (rfl : Try.f91.body = some _) (Nat.le_of_ble_eq_true (by kernel_rfl)) (Nat.le_of_ble_eq_true (by kernel_rfl)) ?_
  intro w0 X0 Fin pv0 pb
  unfold pimpl_copyHeap at h
  refine Wc.seq ?_
  refine Wc.region [] [] [1, 2] [1, 2] [] ⟨[(1, (.ptr 1 0, [])), (2, (.ptr 2 0, []))], [(1, .cells [.sl (List.map GCell.c e341_.gCells), .sl (List.map cI.i64 e341_.gTrail)] []), (2, .cells [.sl (List.map GCell.c []), .sl (List.map cI.i64 [])] [(0, .app 139), (1, .app 3)])], []⟩ _ (by kernel_rfl) .nil ?_
  refine Wc.seq ?_
  obtain ⟨h373, h⟩ := oguard h
  refine Wc.region [{}, {}, { c := some (List.map cI.i64 e341_.gTrail) }, { tk := [8] }, {}, { tk := [9] }] [] [1, 2, 3] [1, 2, 3] [] ⟨[(1, (.ptr 1 0, [])), (2, (.ptr 2 0, [])), (3, (.ptr 3 0, []))], [(1, .cells [.sl (List.map GCell.c e341_.gCells), .sl (List.map cI.i64 e341_.gTrail)] []), (2, .cells [.sl (List.map GCell.c []), .sl (List.map cI.i64 [])] [(0, .app 139), (1, .app 3)]), (3, .cells [.sl (List.map GCell.c []), .sl (List.map cI.i64 e341_.gTrail)] [(0, .app 139), (1, .app 3)])], []⟩ _ (by kernel_rfl) (.cons (app_re0 cI.i64 e341_.gTrail) (.cons (app_leaf (c := cI.i64) (ys := e341_.gTrail) cI.i64_leaf) (.cons (app_obl2 (c := cI.i64) (xs := []) (ys := e341_.gTrail) cI.i64_len h373) .nil))) ?_
  refine Wc.seq ?_
  refine Wc.seq ?_
  refine Wc.region [{}, {}, { v := some (.int .i64 (e341_.gCells.length : Int)) }] [] [2, 3, 11, 12, 13] [2, 3] [] ⟨[(2, (.ptr 2 0, [])), (3, (.ptr 3 0, [])), (11, (.v (.sl (List.map GCell.c e341_.gCells)), [])), (12, (.v (.int .i64 (e341_.gCells.length : Int)), [])), (13, (.v (.int .i64 0), []))], [(2, .cells [.sl (List.map GCell.c []), .sl (List.map cI.i64 [])] [(0, .app 139), (1, .app 3)]), (3, .cells [.sl (List.map GCell.c []), .sl (List.map cI.i64 e341_.gTrail)] [(0, .app 139), (1, .app 3)])], []⟩ _ (by kernel_rfl) (.cons (len_obl GCell.c e341_.gCells) .nil) ?_
  obtain ⟨out1, h374, h⟩ := obind h
  refine Wc.lastJ (fun st => ∃ (e344_ : GHeap), out1 = .done e344_ ∧ st = ⟨[(2, (.ptr 2 0, [])), (3, (.ptr 3 0, []))], [(2, .cells [.sl (List.map GCell.c []), .sl (List.map cI.i64 [])] [(0, .app 139), (1, .app 3)]), (3, .cells [.sl (List.map GCell.c e344_.gCells), .sl (List.map cI.i64 e344_.gTrail)] [(0, .app 139), (1, .app 3)])], []⟩) ?_ ?_
  · refine Wc.block ?_
    refine Wc.loop (fun m st => ∃ (b342_ : Int) (e343_ : GHeap), st = ⟨[(2, (.ptr 2 0, [])), (3, (.ptr 3 0, [])), (11, (.v (.sl (List.map GCell.c e341_.gCells)), [])), (12, (.v (.int .i64 (e341_.gCells.length : Int)), [])), (13, (.v (.int .i64 b342_), []))], [(2, .cells [.sl (List.map GCell.c []), .sl (List.map cI.i64 [])] [(0, .app 139), (1, .app 3)]), (3, .cells [.sl (List.map GCell.c e343_.gCells), .sl (List.map cI.i64 e343_.gTrail)] [(0, .app 139), (1, .app 3)])], []⟩ ∧ pimpl_copyHeap_L1 k e341_ m b342_ e343_ = some out1) ?_ k ⟨_, _, rfl, h374⟩
    rintro m st ⟨b342_, e343_, rfl, h374⟩
    cases m with
    | zero => exact (onone h374).elim
    | succ m =>
      refine Wc.seq ?_
      refine Wc.region [] [] [2, 3, 11, 12, 13, 14] [2, 3] [] ⟨[(2, (.ptr 2 0, [])), (3, (.ptr 3 0, [])), (11, (.v (.sl (List.map GCell.c e341_.gCells)), [])), (12, (.v (.int .i64 (e341_.gCells.length : Int)), [])), (13, (.v (.int .i64 b342_), [])), (14, (.v (.bool (decide (b342_ < (e341_.gCells.length : Int)))), []))], [(2, .cells [.sl (List.map GCell.c []), .sl (List.map cI.i64 [])] [(0, .app 139), (1, .app 3)]), (3, .cells [.sl (List.map GCell.c e343_.gCells), .sl (List.map cI.i64 e343_.gTrail)] [(0, .app 139), (1, .app 3)])], []⟩ _ (by kernel_rfl) .nil ?_
      refine Wc.seq ?_
      rcases oif h374 with ⟨h375, h374⟩ | ⟨h375, h374⟩
      · refine Wc.condT h375 (by kernel_rfl) ?_
        refine Wc.fix (st' := ⟨[(2, (.ptr 2 0, [])), (3, (.ptr 3 0, [])), (11, (.v (.sl (List.map GCell.c e341_.gCells)), [])), (12, (.v (.int .i64 (e341_.gCells.length : Int)), [])), (13, (.v (.int .i64 b342_), []))], [(2, .cells [.sl (List.map GCell.c []), .sl (List.map cI.i64 [])] [(0, .app 139), (1, .app 3)]), (3, .cells [.sl (List.map GCell.c e343_.gCells), .sl (List.map cI.i64 e343_.gTrail)] [(0, .app 139), (1, .app 3)])], []⟩) [] [2, 3, 11, 12, 13] [2, 3] [] (by kernel_rfl) ?_
        refine Wc.skip ?_
        refine Wc.seq ?_
        refine Wc.block ?_
        refine Wc.seq ?_
        obtain ⟨c345_, h376, h374⟩ := obind h374
        refine Wc.region [{ v := some (.vptr [.int .i64 c345_.gKind, .str c345_.gName, .int .i64 c345_.gNum, .int .i64 c345_.gTo, .sl (List.map cI.i64 c345_.gKids)]) }] [] [2, 3, 5, 11, 12, 13] [2, 3, 5] [] ⟨[(2, (.ptr 2 0, [])), (3, (.ptr 3 0, [])), (5, (.ptr 5 0, [])), (11, (.v (.sl (List.map GCell.c e341_.gCells)), [])), (12, (.v (.int .i64 (e341_.gCells.length : Int)), [])), (13, (.v (.int .i64 b342_), []))], [(2, .cells [.sl (List.map GCell.c []), .sl (List.map cI.i64 [])] [(0, .app 139), (1, .app 3)]), (3, .cells [.sl (List.map GCell.c e343_.gCells), .sl (List.map cI.i64 e343_.gTrail)] [(0, .app 139), (1, .app 3)]), (5, .cells [.int .i64 c345_.gKind, .str c345_.gName, .int .i64 c345_.gNum, .int .i64 c345_.gTo, .sl (List.map cI.i64 c345_.gKids)] [])], []⟩ _ (by kernel_rfl) (.cons (at_obl (c := GCell.c) (GCell.c_eq c345_) GCell.c_len h376) (.cons (len_ok 5 [.int .i64 c345_.gKind, .str c345_.gName, .int .i64 c345_.gNum, .int .i64 c345_.gTo, .sl (List.map cI.i64 c345_.gKids)]) .nil)) ?_
        refine Wc.seq ?_
        obtain ⟨h377, h374⟩ := oguard h374
        refine Wc.region [{}, {}, { c := some (List.map cI.i64 c345_.gKids) }, {}, { tk := [19] }] [] [2, 3, 5, 11, 12, 13] [2, 3, 5] [] ⟨[(2, (.ptr 2 0, [])), (3, (.ptr 3 0, [])), (5, (.ptr 5 0, [])), (11, (.v (.sl (List.map GCell.c e341_.gCells)), [])), (12, (.v (.int .i64 (e341_.gCells.length : Int)), [])), (13, (.v (.int .i64 b342_), []))], [(2, .cells [.sl (List.map GCell.c []), .sl (List.map cI.i64 [])] [(0, .app 139), (1, .app 3)]), (3, .cells [.sl (List.map GCell.c e343_.gCells), .sl (List.map cI.i64 e343_.gTrail)] [(0, .app 139), (1, .app 3)]), (5, .cells [.int .i64 c345_.gKind, .str c345_.gName, .int .i64 c345_.gNum, .int .i64 c345_.gTo, .sl (List.map cI.i64 c345_.gKids)] [(4, .app 3)])], []⟩ _ (by kernel_rfl) (.cons (app_re0 cI.i64 c345_.gKids) (.cons (app_leaf (c := cI.i64) (ys := c345_.gKids) cI.i64_leaf) (.cons (app_obl2 (c := cI.i64) (xs := []) (ys := c345_.gKids) cI.i64_len h377) .nil))) ?_
        obtain ⟨h378, h374⟩ := oguard h374
        refine Wc.region [{}, { md := 1 }, {}, { c := some (List.map GCell.c [c345_]) }, { c := some (List.map GCell.c (e343_.gCells ++ [c345_])), tk := [22] }, {}, { tk := [25] }] [.so 3] [2, 3, 11, 12, 13] [2, 3] [] ⟨[(2, (.ptr 2 0, [])), (3, (.ptr 3 0, [])), (11, (.v (.sl (List.map GCell.c e341_.gCells)), [])), (12, (.v (.int .i64 (e341_.gCells.length : Int)), [])), (13, (.v (.int .i64 b342_), []))], [(2, .cells [.sl (List.map GCell.c []), .sl (List.map cI.i64 [])] [(0, .app 139), (1, .app 3)]), (3, .cells [.sl (List.map GCell.c (e343_.gCells ++ [c345_])), .sl (List.map cI.i64 e343_.gTrail)] [(0, .app 139), (1, .app 3)])], []⟩ _ (by kernel_rfl) (.cons (cl_cons (c := GCell.c) (x := c345_) (GCell.c_eq c345_) (cl_nil GCell.c)) (.cons (app_re2 GCell.c e343_.gCells [c345_]) (.cons (app_leaf (c := GCell.c) (ys := [c345_]) GCell.c_leaf) (.cons (app_obl2 (c := GCell.c) (xs := e343_.gCells) (ys := [c345_]) GCell.c_len h378) .nil)))) ?_
        refine Wc.region [] [] [2, 3, 11, 12, 13] [2, 3] [] ⟨[(2, (.ptr 2 0, [])), (3, (.ptr 3 0, [])), (11, (.v (.sl (List.map GCell.c e341_.gCells)), [])), (12, (.v (.int .i64 (e341_.gCells.length : Int)), [])), (13, (.v (.int .i64 (wr.i64 (b342_ + 1))), []))], [(2, .cells [.sl (List.map GCell.c []), .sl (List.map cI.i64 [])] [(0, .app 139), (1, .app 3)]), (3, .cells [.sl (List.map GCell.c (e343_.gCells ++ [c345_])), .sl (List.map cI.i64 e343_.gTrail)] [(0, .app 139), (1, .app 3)])], []⟩ _ (by kernel_rfl) .nil ?_
        exact ⟨_, Nat.lt_succ_self _, _, _, rfl, h374⟩
      · refine Wc.condF h375 (by kernel_rfl) ?_
        refine Wc.fix (st' := ⟨[(2, (.ptr 2 0, [])), (3, (.ptr 3 0, []))], [(2, .cells [.sl (List.map GCell.c []), .sl (List.map cI.i64 [])] [(0, .app 139), (1, .app 3)]), (3, .cells [.sl (List.map GCell.c e343_.gCells), .sl (List.map cI.i64 e343_.gTrail)] [(0, .app 139), (1, .app 3)])], []⟩) [] [2, 3] [2, 3] [] (by kernel_rfl) ?_
        refine Wc.exit ?_
        obtain rfl := Option.some.inj h374
        exact ⟨_, rfl, rfl⟩
  · rintro st ⟨e344_, rfl, rfl⟩
    refine Wc.seq ?_
    refine Wc.region [{ md := 1 }, { tk := [28] }] [] [2] [2] [] ⟨[(2, (.ptr 2 0, []))], [(2, .cells [.sl (List.map GCell.c e344_.gCells), .sl (List.map cI.i64 e344_.gTrail)] [(0, .app 139), (1, .app 3)])], []⟩ _ (by kernel_rfl) .nil ?_
    refine Wc.ret ?_
    obtain rfl := Option.some.inj h
    exact ⟨.inl rfl, by kernel_rfl, by kernel_rfl⟩

def pimpl_put_J1 (k : Nat) (rimpl_put : GHeap → GTerm → Option (GHeap × Int)) (c348_ : GCell) (e349_ : GHeap) : Option (GHeap × Int) :=
  if e349_.gCells.length + [c348_].length ≤ 1073741824 then
    some (GHeap.mk (e349_.gCells ++ [c348_]) e349_.gTrail, wr.i64 (((e349_.gCells ++ [c348_]).length : Int) - 1))
  else none
def pimpl_put_L2 (k : Nat) (rimpl_put : GHeap → GTerm → Option (GHeap × Int)) (e346_ : GHeap) (j347_ : GTerm) : Nat → Int → Option (Out (GHeap × Int) Unit)
  | 0, _ => none
  | m + 1, b350_ =>
    if (decide (b350_ < (e346_.gCells.length : Int))) = true then
      (at' e346_.gCells b350_).bind fun c351_ =>
      if (c351_.gKind == 1) = true then
        if (c351_.gNum == j347_.gNum) = true then
          some (.ret (e346_, b350_))
        else
          pimpl_put_L2 k rimpl_put e346_ j347_ m (wr.i64 (b350_ + 1))
      else
        pimpl_put_L2 k rimpl_put e346_ j347_ m (wr.i64 (b350_ + 1))
    else
      some (.done ())
def pimpl_put_L3 (k : Nat) (rimpl_put : GHeap → GTerm → Option (GHeap × Int)) (j347_ : GTerm) : Nat → Int → GCell → GHeap → Option (Out (GHeap × Int) (GCell × GHeap))
  | 0, _, _, _ => none
  | m + 1, b352_, c353_, e354_ =>
    if (decide (b352_ < (j347_.gKids.length : Int))) = true then
      (at' j347_.gKids b352_).bind fun j357_ =>
      (rimpl_put e354_ j357_).bind fun t358_ =>
      if c353_.gKids.length + [t358_.2].length ≤ 1073741824 then
        pimpl_put_L3 k rimpl_put j347_ m (wr.i64 (b352_ + 1)) (GCell.mk c353_.gKind c353_.gName c353_.gNum c353_.gTo (c353_.gKids ++ [t358_.2])) (GHeap.mk t358_.1.gCells t358_.1.gTrail)
      else none
    else
      some (.done (c353_, e354_))
mutual
/-- impl.put -/
def pimpl_put : Nat → GHeap → GTerm → Option (GHeap × Int)
  | 0, _, _ => none
  | k + 1, e346_, j347_ =>
    if (j347_.gKind == 1) = true then
      (pimpl_put_L2 k (pimpl_put k) e346_ j347_ k 0).bind fun out2 => match out2 with
      | .ret r => some r
      | .done () =>
        pimpl_put_J1 k (pimpl_put k) (GCell.mk 1 j347_.gName j347_.gNum (-1) []) e346_
    else
      if (j347_.gKind == 3) = true then
        pimpl_put_J1 k (pimpl_put k) (GCell.mk 3 j347_.gName j347_.gNum 0 []) e346_
      else
        if (j347_.gKind == 4) = true then
          (pimpl_put_L3 k (pimpl_put k) j347_ k 0 (GCell.mk 4 j347_.gName j347_.gNum 0 []) e346_).bind fun out3 => match out3 with
          | .ret r => some r
          | .done (c355_, e356_) =>
            pimpl_put_J1 k (pimpl_put k) c355_ e356_
        else
          pimpl_put_J1 k (pimpl_put k) (GCell.mk 2 j347_.gName j347_.gNum 0 []) e346_
end
set_option maxHeartbeats 4000000 in
theorem all_pimpl_put : ∀ k : Nat, (∀ {e346_ : GHeap} {j347_ : GTerm} {r : GHeap × Int}, pimpl_put k e346_ j347_ = some r → FnO Try.prog 92 [.p [.slx, .slx] [(0, .ex 139 true (List.map GCell.c e346_.gCells)), (1, .ex 3 true (List.map cI.i64 e346_.gTrail))], .v (.agg [.int .i64 j347_.gKind, .str j347_.gName, .int .i64 j347_.gNum, .sl (List.map GTerm.c j347_.gKids)]) []] (.v (.int .i64 r.2) []) [(0, .p [.slx, .slx] [(0, .ex 139 true (List.map GCell.c r.1.gCells)), (1, .ex 3 true (List.map cI.i64 r.1.gTrail))])]) := by
  intro k
  induction k with
  | zero =>
    · intro e346_ j347_ r h
      exact (onone (by rw [pimpl_put] at h; exact h)).elim
  | succ k ih =>
    have ih_pimpl_put := @ih
    · intro e346_ j347_ r h
      rw [pimpl_put] at h
      refine FnO.of Try.func92 (rfl : Try.f92.body = some _) (Nat.le_of_ble_eq_true (by kernel_rfl)) (Nat.le_of_ble_eq_true (by kernel_rfl)) ?_
      intro w0 X0 Fin pv0 pb
      refine Wc.seq ?_
      refine Wc.region [] [] [0, 3] [3, 1000000] [] ⟨[(0, (.ptr 1000000 0, [])), (3, (.ptr 3 0, []))], [(3, .cells [.int .i64 j347_.gKind, .str j347_.gName, .int .i64 j347_.gNum, .sl (List.map GTerm.c j347_.gKids)] []), (1000000, .cells [.slx, .slx] [(0, .ex 139 true (List.map GCell.c e346_.gCells)), (1, .ex 3 true (List.map cI.i64 e346_.gTrail))])], []⟩ _ (by kernel_rfl) .nil ?_
      refine Wc.seq ?_
      refine Wc.region [{}, {}, {}, {}, {}, {}, { tk := [14] }] [] [0, 3, 5] [3, 5, 1000000] [] ⟨[(0, (.ptr 1000000 0, [])), (3, (.ptr 3 0, [])), (5, (.ptr 5 0, []))], [(3, .cells [.int .i64 j347_.gKind, .str j347_.gName, .int .i64 j347_.gNum, .sl (List.map GTerm.c j347_.gKids)] []), (5, .cells [.int .i64 2, .str j347_.gName, .int .i64 j347_.gNum, .int .i64 0, .sl (List.map cI.i64 [])] [(4, .app 3)]), (1000000, .cells [.slx, .slx] [(0, .ex 139 true (List.map GCell.c e346_.gCells)), (1, .ex 3 true (List.map cI.i64 e346_.gTrail))])], []⟩ _ (by kernel_rfl) .nil ?_
      refine Wc.seqJ (fun st => ∃ (c348_ : GCell) (e349_ : GHeap), st = ⟨[(0, (.ptr 1000000 0, [])), (5, (.ptr 5 0, []))], [(5, .cells [.int .i64 c348_.gKind, .str c348_.gName, .int .i64 c348_.gNum, .int .i64 c348_.gTo, .slx] [(4, .ex 3 true (List.map cI.i64 c348_.gKids))]), (1000000, .cells [.slx, .slx] [(0, .ex 139 true (List.map GCell.c e349_.gCells)), (1, .ex 3 true (List.map cI.i64 e349_.gTrail))])], []⟩ ∧ pimpl_put_J1 k (pimpl_put k) c348_ e349_ = some r) ?_ ?_
      · refine Wc.seq ?_
        refine Wc.region [] [] [0, 3, 5, 16] [3, 5, 1000000] [] ⟨[(0, (.ptr 1000000 0, [])), (3, (.ptr 3 0, [])), (5, (.ptr 5 0, [])), (16, (.v (.int .i64 j347_.gKind), []))], [(3, .cells [.int .i64 j347_.gKind, .str j347_.gName, .int .i64 j347_.gNum, .sl (List.map GTerm.c j347_.gKids)] []), (5, .cells [.int .i64 2, .str j347_.gName, .int .i64 j347_.gNum, .int .i64 0, .sl (List.map cI.i64 [])] [(4, .app 3)]), (1000000, .cells [.slx, .slx] [(0, .ex 139 true (List.map GCell.c e346_.gCells)), (1, .ex 3 true (List.map cI.i64 e346_.gTrail))])], []⟩ _ (by kernel_rfl) .nil ?_
        refine Wc.block ?_
        refine Wc.seq ?_
        refine Wc.region [] [] [0, 3, 5, 16, 17] [3, 5, 1000000] [] ⟨[(0, (.ptr 1000000 0, [])), (3, (.ptr 3 0, [])), (5, (.ptr 5 0, [])), (16, (.v (.int .i64 j347_.gKind), [])), (17, (.v (.bool (j347_.gKind == 1)), []))], [(3, .cells [.int .i64 j347_.gKind, .str j347_.gName, .int .i64 j347_.gNum, .sl (List.map GTerm.c j347_.gKids)] []), (5, .cells [.int .i64 2, .str j347_.gName, .int .i64 j347_.gNum, .int .i64 0, .sl (List.map cI.i64 [])] [(4, .app 3)]), (1000000, .cells [.slx, .slx] [(0, .ex 139 true (List.map GCell.c e346_.gCells)), (1, .ex 3 true (List.map cI.i64 e346_.gTrail))])], []⟩ _ (by kernel_rfl) .nil ?_
        rcases oif h with ⟨h380, h⟩ | ⟨h380, h⟩
        · refine Wc.condT h380 (by kernel_rfl) ?_
          refine Wc.seq ?_
          refine Wc.seq ?_
          refine Wc.region [{}, {}, {}, {}, { v := some (.int .i64 (e346_.gCells.length : Int)) }] [] [0, 3, 5, 22, 23, 24] [3, 5, 1000000] [] ⟨[(0, (.ptr 1000000 0, [])), (3, (.ptr 3 0, [])), (5, (.ptr 5 0, [])), (22, (.v (.slx), [(0, .al (.b 1000000 0) [])])), (23, (.v (.int .i64 (e346_.gCells.length : Int)), [])), (24, (.v (.int .i64 0), []))], [(3, .cells [.int .i64 j347_.gKind, .str j347_.gName, .int .i64 j347_.gNum, .sl (List.map GTerm.c j347_.gKids)] []), (5, .cells [.int .i64 2, .str j347_.gName, .int .i64 j347_.gNum, .int .i64 0, .sl (List.map cI.i64 [])] [(4, .app 3)]), (1000000, .cells [.slx, .slx] [(0, .ex 139 true (List.map GCell.c e346_.gCells)), (1, .ex 3 true (List.map cI.i64 e346_.gTrail))])], []⟩ _ (by kernel_rfl) (.cons (len_obl GCell.c e346_.gCells) .nil) ?_
          obtain ⟨out2, h381, h⟩ := obind h
          refine Wc.lastJ (fun st => out2 = .done () ∧ st = ⟨[(0, (.ptr 1000000 0, [])), (5, (.ptr 5 0, []))], [(5, .cells [.int .i64 2, .str j347_.gName, .int .i64 j347_.gNum, .int .i64 0, .slx] [(4, .ex 3 true (List.map cI.i64 []))]), (1000000, .cells [.slx, .slx] [(0, .ex 139 true (List.map GCell.c e346_.gCells)), (1, .ex 3 true (List.map cI.i64 e346_.gTrail))])], []⟩) ?_ ?_
          · refine Wc.block ?_
            refine Wc.fix (st' := ⟨[(0, (.ptr 1000000 0, [])), (3, (.ptr 3 0, [])), (5, (.ptr 5 0, [])), (22, (.v (.slx), [(0, .al (.b 1000000 0) [])])), (23, (.v (.int .i64 (e346_.gCells.length : Int)), [])), (24, (.v (.int .i64 0), []))], [(3, .cells [.int .i64 j347_.gKind, .str j347_.gName, .int .i64 j347_.gNum, .sl (List.map GTerm.c j347_.gKids)] []), (5, .cells [.int .i64 2, .str j347_.gName, .int .i64 j347_.gNum, .int .i64 0, .slx] [(4, .ex 3 true (List.map cI.i64 []))]), (1000000, .cells [.slx, .slx] [(0, .ex 139 true (List.map GCell.c e346_.gCells)), (1, .ex 3 true (List.map cI.i64 e346_.gTrail))])], []⟩) [.ow (.b 5 4) true] [0, 3, 5, 22, 23, 24] [3, 5, 1000000] [] (by kernel_rfl) ?_
            refine Wc.loop (fun m st => ∃ (b350_ : Int), st = ⟨[(0, (.ptr 1000000 0, [])), (3, (.ptr 3 0, [])), (5, (.ptr 5 0, [])), (22, (.v (.slx), [(0, .al (.b 1000000 0) [])])), (23, (.v (.int .i64 (e346_.gCells.length : Int)), [])), (24, (.v (.int .i64 b350_), []))], [(3, .cells [.int .i64 j347_.gKind, .str j347_.gName, .int .i64 j347_.gNum, .sl (List.map GTerm.c j347_.gKids)] []), (5, .cells [.int .i64 2, .str j347_.gName, .int .i64 j347_.gNum, .int .i64 0, .slx] [(4, .ex 3 true (List.map cI.i64 []))]), (1000000, .cells [.slx, .slx] [(0, .ex 139 true (List.map GCell.c e346_.gCells)), (1, .ex 3 true (List.map cI.i64 e346_.gTrail))])], []⟩ ∧ pimpl_put_L2 k (pimpl_put k) e346_ j347_ m b350_ = some out2) ?_ k ⟨_, rfl, h381⟩
            rintro m st ⟨b350_, rfl, h381⟩
            cases m with
            | zero => exact (onone h381).elim
            | succ m =>
              refine Wc.seq ?_
              refine Wc.region [] [] [0, 3, 5, 22, 23, 24, 25] [3, 5, 1000000] [] ⟨[(0, (.ptr 1000000 0, [])), (3, (.ptr 3 0, [])), (5, (.ptr 5 0, [])), (22, (.v (.slx), [(0, .al (.b 1000000 0) [])])), (23, (.v (.int .i64 (e346_.gCells.length : Int)), [])), (24, (.v (.int .i64 b350_), [])), (25, (.v (.bool (decide (b350_ < (e346_.gCells.length : Int)))), []))], [(3, .cells [.int .i64 j347_.gKind, .str j347_.gName, .int .i64 j347_.gNum, .sl (List.map GTerm.c j347_.gKids)] []), (5, .cells [.int .i64 2, .str j347_.gName, .int .i64 j347_.gNum, .int .i64 0, .slx] [(4, .ex 3 true (List.map cI.i64 []))]), (1000000, .cells [.slx, .slx] [(0, .ex 139 true (List.map GCell.c e346_.gCells)), (1, .ex 3 true (List.map cI.i64 e346_.gTrail))])], []⟩ _ (by kernel_rfl) .nil ?_
              refine Wc.seq ?_
              rcases oif h381 with ⟨h382, h381⟩ | ⟨h382, h381⟩
              · refine Wc.condT h382 (by kernel_rfl) ?_
                refine Wc.fix (st' := ⟨[(0, (.ptr 1000000 0, [])), (3, (.ptr 3 0, [])), (5, (.ptr 5 0, [])), (22, (.v (.slx), [(0, .al (.b 1000000 0) [])])), (23, (.v (.int .i64 (e346_.gCells.length : Int)), [])), (24, (.v (.int .i64 b350_), []))], [(3, .cells [.int .i64 j347_.gKind, .str j347_.gName, .int .i64 j347_.gNum, .sl (List.map GTerm.c j347_.gKids)] []), (5, .cells [.int .i64 2, .str j347_.gName, .int .i64 j347_.gNum, .int .i64 0, .slx] [(4, .ex 3 true (List.map cI.i64 []))]), (1000000, .cells [.slx, .slx] [(0, .ex 139 true (List.map GCell.c e346_.gCells)), (1, .ex 3 true (List.map cI.i64 e346_.gTrail))])], []⟩) [] [0, 3, 5, 22, 23, 24] [3, 5, 1000000] [] (by kernel_rfl) ?_
                refine Wc.skip ?_
                refine Wc.seq ?_
                refine Wc.block ?_
                refine Wc.seq ?_
                obtain ⟨c351_, h383, h381⟩ := obind h381
                refine Wc.region [{}, {}, { v := some (.agg [.int .i64 c351_.gKind, .str c351_.gName, .int .i64 c351_.gNum, .int .i64 c351_.gTo, .slx]) }] [] [0, 3, 5, 6, 7, 22, 23, 24] [3, 5, 7, 1000000] [] ⟨[(0, (.ptr 1000000 0, [])), (3, (.ptr 3 0, [])), (5, (.ptr 5 0, [])), (6, (.v (.int .i64 b350_), [])), (7, (.ptr 7 0, [])), (22, (.v (.slx), [(0, .al (.b 1000000 0) [])])), (23, (.v (.int .i64 (e346_.gCells.length : Int)), [])), (24, (.v (.int .i64 b350_), []))], [(3, .cells [.int .i64 j347_.gKind, .str j347_.gName, .int .i64 j347_.gNum, .sl (List.map GTerm.c j347_.gKids)] []), (5, .cells [.int .i64 2, .str j347_.gName, .int .i64 j347_.gNum, .int .i64 0, .slx] [(4, .ex 3 true (List.map cI.i64 []))]), (7, .cells [.int .i64 c351_.gKind, .str c351_.gName, .int .i64 c351_.gNum, .int .i64 c351_.gTo, .slx] [(4, .al (.b 1000000 0) [(((b350_).toNat), 5, 4)])]), (1000000, .cells [.slx, .slx] [(0, .ex 139 true (List.map GCell.c e346_.gCells)), (1, .ex 3 true (List.map cI.i64 e346_.gTrail))])], []⟩ _ (by kernel_rfl) (.cons (ix_obl (c := GCell.c) GCell.c_len h383) (.cons (el_oblD (sz := 5) (off := 0) (s := 5) (ag := true) (v := .agg [.int .i64 c351_.gKind, .str c351_.gName, .int .i64 c351_.gNum, .int .i64 c351_.gTo, .slx]) (c := GCell.c) (GCell.c_eq c351_) (at'_spec h383).2 rfl (Nat.le_of_ble_eq_true rfl) rfl) .nil)) ?_
                refine Wc.seq ?_
                rcases oif h381 with ⟨h384, h381⟩ | ⟨h384, h381⟩
                · refine Wc.region [{}, {}, {}, { re := some (.bool true) }] [] [0, 3, 5, 6, 22, 23, 24, 38] [3, 5, 1000000] [] ⟨[(0, (.ptr 1000000 0, [])), (3, (.ptr 3 0, [])), (5, (.ptr 5 0, [])), (6, (.v (.int .i64 b350_), [])), (22, (.v (.slx), [(0, .al (.b 1000000 0) [])])), (23, (.v (.int .i64 (e346_.gCells.length : Int)), [])), (24, (.v (.int .i64 b350_), [])), (38, (.v (.bool (c351_.gNum == j347_.gNum)), []))], [(3, .cells [.int .i64 j347_.gKind, .str j347_.gName, .int .i64 j347_.gNum, .sl (List.map GTerm.c j347_.gKids)] []), (5, .cells [.int .i64 2, .str j347_.gName, .int .i64 j347_.gNum, .int .i64 0, .slx] [(4, .ex 3 true (List.map cI.i64 []))]), (1000000, .cells [.slx, .slx] [(0, .ex 139 true (List.map GCell.c e346_.gCells)), (1, .ex 3 true (List.map cI.i64 e346_.gTrail))])], []⟩ _ (by kernel_rfl) (.cons (congrArg AV.bool h384) .nil) ?_
                  rcases oif h381 with ⟨h385, h381⟩ | ⟨h385, h381⟩
                  · refine Wc.condT h385 (by kernel_rfl) ?_
                    refine Wc.seq ?_
                    refine Wc.region [] [] [4] [1000000] [] ⟨[(4, (.v (.int .i64 b350_), []))], [(1000000, .cells [.slx, .slx] [(0, .ex 139 true (List.map GCell.c e346_.gCells)), (1, .ex 3 true (List.map cI.i64 e346_.gTrail))])], []⟩ _ (by kernel_rfl) .nil ?_
                    refine Wc.ret ?_
                    obtain rfl := Option.some.inj h381
                    obtain rfl := Option.some.inj h
                    exact ⟨.inl rfl, by kernel_rfl, by kernel_rfl⟩
                  · refine Wc.condF h385 (by kernel_rfl) ?_
                    refine Wc.fix (st' := ⟨[(0, (.ptr 1000000 0, [])), (3, (.ptr 3 0, [])), (5, (.ptr 5 0, [])), (22, (.v (.slx), [(0, .al (.b 1000000 0) [])])), (23, (.v (.int .i64 (e346_.gCells.length : Int)), [])), (24, (.v (.int .i64 b350_), []))], [(3, .cells [.int .i64 j347_.gKind, .str j347_.gName, .int .i64 j347_.gNum, .sl (List.map GTerm.c j347_.gKids)] []), (5, .cells [.int .i64 2, .str j347_.gName, .int .i64 j347_.gNum, .int .i64 0, .slx] [(4, .ex 3 true (List.map cI.i64 []))]), (1000000, .cells [.slx, .slx] [(0, .ex 139 true (List.map GCell.c e346_.gCells)), (1, .ex 3 true (List.map cI.i64 e346_.gTrail))])], []⟩) [] [0, 3, 5, 22, 23, 24] [3, 5, 1000000] [] (by kernel_rfl) ?_
                    refine Wc.skip ?_
                    refine Wc.region [] [] [0, 3, 5, 22, 23, 24] [3, 5, 1000000] [] ⟨[(0, (.ptr 1000000 0, [])), (3, (.ptr 3 0, [])), (5, (.ptr 5 0, [])), (22, (.v (.slx), [(0, .al (.b 1000000 0) [])])), (23, (.v (.int .i64 (e346_.gCells.length : Int)), [])), (24, (.v (.int .i64 (wr.i64 (b350_ + 1))), []))], [(3, .cells [.int .i64 j347_.gKind, .str j347_.gName, .int .i64 j347_.gNum, .sl (List.map GTerm.c j347_.gKids)] []), (5, .cells [.int .i64 2, .str j347_.gName, .int .i64 j347_.gNum, .int .i64 0, .slx] [(4, .ex 3 true (List.map cI.i64 []))]), (1000000, .cells [.slx, .slx] [(0, .ex 139 true (List.map GCell.c e346_.gCells)), (1, .ex 3 true (List.map cI.i64 e346_.gTrail))])], []⟩ _ (by kernel_rfl) .nil ?_
                    exact ⟨_, Nat.lt_succ_self _, _, rfl, h381⟩
                · refine Wc.region [{}, {}, {}, { re := some (.bool false) }] [] [0, 3, 5, 6, 22, 23, 24, 38] [3, 5, 1000000] [] ⟨[(0, (.ptr 1000000 0, [])), (3, (.ptr 3 0, [])), (5, (.ptr 5 0, [])), (6, (.v (.int .i64 b350_), [])), (22, (.v (.slx), [(0, .al (.b 1000000 0) [])])), (23, (.v (.int .i64 (e346_.gCells.length : Int)), [])), (24, (.v (.int .i64 b350_), [])), (38, (.v (.bool false), []))], [(3, .cells [.int .i64 j347_.gKind, .str j347_.gName, .int .i64 j347_.gNum, .sl (List.map GTerm.c j347_.gKids)] []), (5, .cells [.int .i64 2, .str j347_.gName, .int .i64 j347_.gNum, .int .i64 0, .slx] [(4, .ex 3 true (List.map cI.i64 []))]), (1000000, .cells [.slx, .slx] [(0, .ex 139 true (List.map GCell.c e346_.gCells)), (1, .ex 3 true (List.map cI.i64 e346_.gTrail))])], []⟩ _ (by kernel_rfl) (.cons (congrArg AV.bool h384) .nil) ?_
                  refine Wc.condF rfl (by kernel_rfl) ?_
                  refine Wc.fix (st' := ⟨[(0, (.ptr 1000000 0, [])), (3, (.ptr 3 0, [])), (5, (.ptr 5 0, [])), (22, (.v (.slx), [(0, .al (.b 1000000 0) [])])), (23, (.v (.int .i64 (e346_.gCells.length : Int)), [])), (24, (.v (.int .i64 b350_), []))], [(3, .cells [.int .i64 j347_.gKind, .str j347_.gName, .int .i64 j347_.gNum, .sl (List.map GTerm.c j347_.gKids)] []), (5, .cells [.int .i64 2, .str j347_.gName, .int .i64 j347_.gNum, .int .i64 0, .slx] [(4, .ex 3 true (List.map cI.i64 []))]), (1000000, .cells [.slx, .slx] [(0, .ex 139 true (List.map GCell.c e346_.gCells)), (1, .ex 3 true (List.map cI.i64 e346_.gTrail))])], []⟩) [] [0, 3, 5, 22, 23, 24] [3, 5, 1000000] [] (by kernel_rfl) ?_
                  refine Wc.skip ?_
                  refine Wc.region [] [] [0, 3, 5, 22, 23, 24] [3, 5, 1000000] [] ⟨[(0, (.ptr 1000000 0, [])), (3, (.ptr 3 0, [])), (5, (.ptr 5 0, [])), (22, (.v (.slx), [(0, .al (.b 1000000 0) [])])), (23, (.v (.int .i64 (e346_.gCells.length : Int)), [])), (24, (.v (.int .i64 (wr.i64 (b350_ + 1))), []))], [(3, .cells [.int .i64 j347_.gKind, .str j347_.gName, .int .i64 j347_.gNum, .sl (List.map GTerm.c j347_.gKids)] []), (5, .cells [.int .i64 2, .str j347_.gName, .int .i64 j347_.gNum, .int .i64 0, .slx] [(4, .ex 3 true (List.map cI.i64 []))]), (1000000, .cells [.slx, .slx] [(0, .ex 139 true (List.map GCell.c e346_.gCells)), (1, .ex 3 true (List.map cI.i64 e346_.gTrail))])], []⟩ _ (by kernel_rfl) .nil ?_
                  exact ⟨_, Nat.lt_succ_self _, _, rfl, h381⟩
              · refine Wc.condF h382 (by kernel_rfl) ?_
                refine Wc.fix (st' := ⟨[(0, (.ptr 1000000 0, [])), (5, (.ptr 5 0, []))], [(5, .cells [.int .i64 2, .str j347_.gName, .int .i64 j347_.gNum, .int .i64 0, .slx] [(4, .ex 3 true (List.map cI.i64 []))]), (1000000, .cells [.slx, .slx] [(0, .ex 139 true (List.map GCell.c e346_.gCells)), (1, .ex 3 true (List.map cI.i64 e346_.gTrail))])], []⟩) [] [0, 5] [5, 1000000] [] (by kernel_rfl) ?_
                refine Wc.exit ?_
                obtain rfl := Option.some.inj h381
                exact ⟨rfl, rfl⟩
          · rintro st ⟨rfl, rfl⟩
            refine Wc.region [] [] [0, 5] [5, 1000000] [] ⟨[(0, (.ptr 1000000 0, [])), (5, (.ptr 5 0, []))], [(5, .cells [.int .i64 1, .str j347_.gName, .int .i64 j347_.gNum, .int .i64 (-1), .slx] [(4, .ex 3 true (List.map cI.i64 []))]), (1000000, .cells [.slx, .slx] [(0, .ex 139 true (List.map GCell.c e346_.gCells)), (1, .ex 3 true (List.map cI.i64 e346_.gTrail))])], []⟩ _ (by kernel_rfl) .nil ?_
            exact ⟨_, _, rfl, h⟩
        · refine Wc.condF h380 (by kernel_rfl) ?_
          refine Wc.seq ?_
          refine Wc.region [] [] [0, 3, 5, 16, 43] [3, 5, 1000000] [] ⟨[(0, (.ptr 1000000 0, [])), (3, (.ptr 3 0, [])), (5, (.ptr 5 0, [])), (16, (.v (.int .i64 j347_.gKind), [])), (43, (.v (.bool (j347_.gKind == 3)), []))], [(3, .cells [.int .i64 j347_.gKind, .str j347_.gName, .int .i64 j347_.gNum, .sl (List.map GTerm.c j347_.gKids)] []), (5, .cells [.int .i64 2, .str j347_.gName, .int .i64 j347_.gNum, .int .i64 0, .sl (List.map cI.i64 [])] [(4, .app 3)]), (1000000, .cells [.slx, .slx] [(0, .ex 139 true (List.map GCell.c e346_.gCells)), (1, .ex 3 true (List.map cI.i64 e346_.gTrail))])], []⟩ _ (by kernel_rfl) .nil ?_
          rcases oif h with ⟨h386, h⟩ | ⟨h386, h⟩
          · refine Wc.condT h386 (by kernel_rfl) ?_
            refine Wc.region [] [.ow (.b 5 4) true] [0, 5] [5, 1000000] [] ⟨[(0, (.ptr 1000000 0, [])), (5, (.ptr 5 0, []))], [(5, .cells [.int .i64 3, .str j347_.gName, .int .i64 j347_.gNum, .int .i64 0, .slx] [(4, .ex 3 true (List.map cI.i64 []))]), (1000000, .cells [.slx, .slx] [(0, .ex 139 true (List.map GCell.c e346_.gCells)), (1, .ex 3 true (List.map cI.i64 e346_.gTrail))])], []⟩ _ (by kernel_rfl) .nil ?_
            exact ⟨_, _, rfl, h⟩
          · refine Wc.condF h386 (by kernel_rfl) ?_
            refine Wc.seq ?_
            refine Wc.region [] [] [0, 3, 5, 46] [3, 5, 1000000] [] ⟨[(0, (.ptr 1000000 0, [])), (3, (.ptr 3 0, [])), (5, (.ptr 5 0, [])), (46, (.v (.bool (j347_.gKind == 4)), []))], [(3, .cells [.int .i64 j347_.gKind, .str j347_.gName, .int .i64 j347_.gNum, .sl (List.map GTerm.c j347_.gKids)] []), (5, .cells [.int .i64 2, .str j347_.gName, .int .i64 j347_.gNum, .int .i64 0, .sl (List.map cI.i64 [])] [(4, .app 3)]), (1000000, .cells [.slx, .slx] [(0, .ex 139 true (List.map GCell.c e346_.gCells)), (1, .ex 3 true (List.map cI.i64 e346_.gTrail))])], []⟩ _ (by kernel_rfl) .nil ?_
            rcases oif h with ⟨h387, h⟩ | ⟨h387, h⟩
            · refine Wc.condT h387 (by kernel_rfl) ?_
              refine Wc.seq ?_
              refine Wc.region [] [] [0, 3, 5] [3, 5, 1000000] [] ⟨[(0, (.ptr 1000000 0, [])), (3, (.ptr 3 0, [])), (5, (.ptr 5 0, []))], [(3, .cells [.int .i64 j347_.gKind, .str j347_.gName, .int .i64 j347_.gNum, .sl (List.map GTerm.c j347_.gKids)] []), (5, .cells [.int .i64 4, .str j347_.gName, .int .i64 j347_.gNum, .int .i64 0, .sl (List.map cI.i64 [])] [(4, .app 3)]), (1000000, .cells [.slx, .slx] [(0, .ex 139 true (List.map GCell.c e346_.gCells)), (1, .ex 3 true (List.map cI.i64 e346_.gTrail))])], []⟩ _ (by kernel_rfl) .nil ?_
              refine Wc.seq ?_
              refine Wc.region [{}, {}, { v := some (.int .i64 (j347_.gKids.length : Int)) }] [] [0, 5, 50, 51, 52] [5, 1000000] [] ⟨[(0, (.ptr 1000000 0, [])), (5, (.ptr 5 0, [])), (50, (.v (.sl (List.map GTerm.c j347_.gKids)), [])), (51, (.v (.int .i64 (j347_.gKids.length : Int)), [])), (52, (.v (.int .i64 0), []))], [(5, .cells [.int .i64 4, .str j347_.gName, .int .i64 j347_.gNum, .int .i64 0, .sl (List.map cI.i64 [])] [(4, .app 3)]), (1000000, .cells [.slx, .slx] [(0, .ex 139 true (List.map GCell.c e346_.gCells)), (1, .ex 3 true (List.map cI.i64 e346_.gTrail))])], []⟩ _ (by kernel_rfl) (.cons (len_obl GTerm.c j347_.gKids) .nil) ?_
              obtain ⟨out3, h388, h⟩ := obind h
              refine Wc.lastJ (fun st => ∃ (c355_ : GCell) (e356_ : GHeap), out3 = .done (c355_, e356_) ∧ st = ⟨[(0, (.ptr 1000000 0, [])), (5, (.ptr 5 0, []))], [(5, .cells [.int .i64 c355_.gKind, .str c355_.gName, .int .i64 c355_.gNum, .int .i64 c355_.gTo, .slx] [(4, .ex 3 true (List.map cI.i64 c355_.gKids))]), (1000000, .cells [.slx, .slx] [(0, .ex 139 true (List.map GCell.c e356_.gCells)), (1, .ex 3 true (List.map cI.i64 e356_.gTrail))])], []⟩) ?_ ?_
              · refine Wc.block ?_
                refine Wc.fix (st' := ⟨[(0, (.ptr 1000000 0, [])), (5, (.ptr 5 0, [])), (50, (.v (.sl (List.map GTerm.c j347_.gKids)), [])), (51, (.v (.int .i64 (j347_.gKids.length : Int)), [])), (52, (.v (.int .i64 0), []))], [(5, .cells [.int .i64 4, .str j347_.gName, .int .i64 j347_.gNum, .int .i64 0, .slx] [(4, .ex 3 true (List.map cI.i64 []))]), (1000000, .cells [.slx, .slx] [(0, .ex 139 true (List.map GCell.c e346_.gCells)), (1, .ex 3 true (List.map cI.i64 e346_.gTrail))])], []⟩) [.ow (.b 5 4) true] [0, 5, 50, 51, 52] [5, 1000000] [] (by kernel_rfl) ?_
                refine Wc.loop (fun m st => ∃ (b352_ : Int) (c353_ : GCell) (e354_ : GHeap), st = ⟨[(0, (.ptr 1000000 0, [])), (5, (.ptr 5 0, [])), (50, (.v (.sl (List.map GTerm.c j347_.gKids)), [])), (51, (.v (.int .i64 (j347_.gKids.length : Int)), [])), (52, (.v (.int .i64 b352_), []))], [(5, .cells [.int .i64 c353_.gKind, .str c353_.gName, .int .i64 c353_.gNum, .int .i64 c353_.gTo, .slx] [(4, .ex 3 true (List.map cI.i64 c353_.gKids))]), (1000000, .cells [.slx, .slx] [(0, .ex 139 true (List.map GCell.c e354_.gCells)), (1, .ex 3 true (List.map cI.i64 e354_.gTrail))])], []⟩ ∧ pimpl_put_L3 k (pimpl_put k) j347_ m b352_ c353_ e354_ = some out3) ?_ k ⟨_, _, _, rfl, h388⟩
                rintro m st ⟨b352_, c353_, e354_, rfl, h388⟩
                cases m with
                | zero => exact (onone h388).elim
                | succ m =>
                  refine Wc.seq ?_
                  refine Wc.region [] [] [0, 5, 50, 51, 52, 53] [5, 1000000] [] ⟨[(0, (.ptr 1000000 0, [])), (5, (.ptr 5 0, [])), (50, (.v (.sl (List.map GTerm.c j347_.gKids)), [])), (51, (.v (.int .i64 (j347_.gKids.length : Int)), [])), (52, (.v (.int .i64 b352_), [])), (53, (.v (.bool (decide (b352_ < (j347_.gKids.length : Int)))), []))], [(5, .cells [.int .i64 c353_.gKind, .str c353_.gName, .int .i64 c353_.gNum, .int .i64 c353_.gTo, .slx] [(4, .ex 3 true (List.map cI.i64 c353_.gKids))]), (1000000, .cells [.slx, .slx] [(0, .ex 139 true (List.map GCell.c e354_.gCells)), (1, .ex 3 true (List.map cI.i64 e354_.gTrail))])], []⟩ _ (by kernel_rfl) .nil ?_
                  refine Wc.seq ?_
                  rcases oif h388 with ⟨h389, h388⟩ | ⟨h389, h388⟩
                  · refine Wc.condT h389 (by kernel_rfl) ?_
                    refine Wc.fix (st' := ⟨[(0, (.ptr 1000000 0, [])), (5, (.ptr 5 0, [])), (50, (.v (.sl (List.map GTerm.c j347_.gKids)), [])), (51, (.v (.int .i64 (j347_.gKids.length : Int)), [])), (52, (.v (.int .i64 b352_), []))], [(5, .cells [.int .i64 c353_.gKind, .str c353_.gName, .int .i64 c353_.gNum, .int .i64 c353_.gTo, .slx] [(4, .ex 3 true (List.map cI.i64 c353_.gKids))]), (1000000, .cells [.slx, .slx] [(0, .ex 139 true (List.map GCell.c e354_.gCells)), (1, .ex 3 true (List.map cI.i64 e354_.gTrail))])], []⟩) [] [0, 5, 50, 51, 52] [5, 1000000] [] (by kernel_rfl) ?_
                    refine Wc.skip ?_
                    refine Wc.seq ?_
                    refine Wc.block ?_
                    refine Wc.seq ?_
                    obtain ⟨j357_, h390, h388⟩ := obind h388
                    refine Wc.region [{ v := some (.vptr [.int .i64 j357_.gKind, .str j357_.gName, .int .i64 j357_.gNum, .sl (List.map GTerm.c j357_.gKids)]) }] [] [0, 5, 9, 50, 51, 52] [5, 9, 1000000] [] ⟨[(0, (.ptr 1000000 0, [])), (5, (.ptr 5 0, [])), (9, (.ptr 9 0, [])), (50, (.v (.sl (List.map GTerm.c j347_.gKids)), [])), (51, (.v (.int .i64 (j347_.gKids.length : Int)), [])), (52, (.v (.int .i64 b352_), []))], [(5, .cells [.int .i64 c353_.gKind, .str c353_.gName, .int .i64 c353_.gNum, .int .i64 c353_.gTo, .slx] [(4, .ex 3 true (List.map cI.i64 c353_.gKids))]), (9, .cells [.int .i64 j357_.gKind, .str j357_.gName, .int .i64 j357_.gNum, .sl (List.map GTerm.c j357_.gKids)] []), (1000000, .cells [.slx, .slx] [(0, .ex 139 true (List.map GCell.c e354_.gCells)), (1, .ex 3 true (List.map cI.i64 e354_.gTrail))])], []⟩ _ (by kernel_rfl) (.cons (at_obl (c := GTerm.c) (GTerm.c_eq j357_) GTerm.c_len h390) (.cons (len_ok 4 [.int .i64 j357_.gKind, .str j357_.gName, .int .i64 j357_.gNum, .sl (List.map GTerm.c j357_.gKids)]) .nil)) ?_
                    obtain ⟨t358_, h391, h388⟩ := obind h388
                    obtain ⟨h392, h388⟩ := oguard h388
                    refine Wc.draw hmix [{}, { md := 1 }, {}, {}, { r := some (.v (.int .i64 t358_.2) []), outs := [(0, .p [.slx, .slx] [(0, .ex 139 true (List.map GCell.c t358_.1.gCells)), (1, .ex 3 true (List.map cI.i64 t358_.1.gTrail))])] }, { c := some (List.map cI.i64 [t358_.2]) }, { c := some (List.map cI.i64 (c353_.gKids ++ [t358_.2])), tk := [57], md := 2 }, {}, { tk := [62] }] [] [0, 5, 50, 51, 52] [5, 1000000] [] ⟨[(0, (.ptr 1000000 0, [])), (5, (.ptr 5 0, [])), (50, (.v (.sl (List.map GTerm.c j347_.gKids)), [])), (51, (.v (.int .i64 (j347_.gKids.length : Int)), [])), (52, (.v (.int .i64 b352_), []))], [(5, .cells [.int .i64 c353_.gKind, .str c353_.gName, .int .i64 c353_.gNum, .int .i64 c353_.gTo, .slx] [(4, .ex 3 true (List.map cI.i64 (c353_.gKids ++ [t358_.2])))]), (1000000, .cells [.slx, .slx] [(0, .ex 139 true (List.map GCell.c t358_.1.gCells)), (1, .ex 3 true (List.map cI.i64 t358_.1.gTrail))])], []⟩ _ (by kernel_rfl) (fun X => by kernel_rfl) (.cons (ih_pimpl_put h391) (.cons (cl_cons (c := cI.i64) (x := t358_.2) rfl (cl_nil cI.i64)) (.cons (app_re2 cI.i64 c353_.gKids [t358_.2]) (.cons (app_scal (c := cI.i64) (ys := [t358_.2]) cI.i64_scal) (.cons (app_obl2 (c := cI.i64) (xs := c353_.gKids) (ys := [t358_.2]) cI.i64_len h392) .nil))))) ?_
                    refine Wc.region [] [] [0, 5, 50, 51, 52] [5, 1000000] [] ⟨[(0, (.ptr 1000000 0, [])), (5, (.ptr 5 0, [])), (50, (.v (.sl (List.map GTerm.c j347_.gKids)), [])), (51, (.v (.int .i64 (j347_.gKids.length : Int)), [])), (52, (.v (.int .i64 (wr.i64 (b352_ + 1))), []))], [(5, .cells [.int .i64 c353_.gKind, .str c353_.gName, .int .i64 c353_.gNum, .int .i64 c353_.gTo, .slx] [(4, .ex 3 true (List.map cI.i64 (c353_.gKids ++ [t358_.2])))]), (1000000, .cells [.slx, .slx] [(0, .ex 139 true (List.map GCell.c t358_.1.gCells)), (1, .ex 3 true (List.map cI.i64 t358_.1.gTrail))])], []⟩ _ (by kernel_rfl) .nil ?_
                    exact ⟨_, Nat.lt_succ_self _, _, _, _, rfl, h388⟩
                  · refine Wc.condF h389 (by kernel_rfl) ?_
                    refine Wc.fix (st' := ⟨[(0, (.ptr 1000000 0, [])), (5, (.ptr 5 0, []))], [(5, .cells [.int .i64 c353_.gKind, .str c353_.gName, .int .i64 c353_.gNum, .int .i64 c353_.gTo, .slx] [(4, .ex 3 true (List.map cI.i64 c353_.gKids))]), (1000000, .cells [.slx, .slx] [(0, .ex 139 true (List.map GCell.c e354_.gCells)), (1, .ex 3 true (List.map cI.i64 e354_.gTrail))])], []⟩) [] [0, 5] [5, 1000000] [] (by kernel_rfl) ?_
                    refine Wc.exit ?_
                    obtain rfl := Option.some.inj h388
                    exact ⟨_, _, rfl, rfl⟩
              · rintro st ⟨c355_, e356_, rfl, rfl⟩
                exact ⟨_, _, rfl, h⟩
            · refine Wc.condF h387 (by kernel_rfl) ?_
              refine Wc.fix (st' := ⟨[(0, (.ptr 1000000 0, [])), (5, (.ptr 5 0, []))], [(5, .cells [.int .i64 2, .str j347_.gName, .int .i64 j347_.gNum, .int .i64 0, .slx] [(4, .ex 3 true (List.map cI.i64 []))]), (1000000, .cells [.slx, .slx] [(0, .ex 139 true (List.map GCell.c e346_.gCells)), (1, .ex 3 true (List.map cI.i64 e346_.gTrail))])], []⟩) [.ow (.b 5 4) true] [0, 5] [5, 1000000] [] (by kernel_rfl) ?_
              refine Wc.skip ?_
              exact ⟨_, _, rfl, h⟩
      · rintro st ⟨c348_, e349_, rfl, h⟩
        refine Wc.seq ?_
        obtain ⟨h379, h⟩ := oguard h
        refine Wc.draw hmix [{}, {}, {}, {}, { md := 1 }, { md := 1 }, { c := some (List.map GCell.c [c348_]), tk := [70], md := 2 }, { c := some (List.map GCell.c (e349_.gCells ++ [c348_])), tk := [69, 71], md := 2 }, {}, {}, { tk := [72] }] [.so 1000000] [0] [1000000] [] ⟨[(0, (.ptr 1000000 0, []))], [(1000000, .cells [.slx, .slx] [(0, .ex 139 true (List.map GCell.c (e349_.gCells ++ [c348_]))), (1, .ex 3 true (List.map cI.i64 e349_.gTrail))])], []⟩ _ (by kernel_rfl) (fun X => by kernel_rfl) (.cons (cl_cons (c := GCell.c) (x := c348_) (GCell.c_eq c348_) (cl_nil GCell.c)) (.cons (app_re2 GCell.c e349_.gCells [c348_]) (.cons (app_obl2 (c := GCell.c) (xs := e349_.gCells) (ys := [c348_]) GCell.c_len h379) .nil))) ?_
        refine Wc.seq ?_
        refine Wc.region [{}, {}, {}, {}, { v := some (.int .i64 ((e349_.gCells ++ [c348_]).length : Int)) }] [] [4] [1000000] [] ⟨[(4, (.v (.int .i64 (wr.i64 (((e349_.gCells ++ [c348_]).length : Int) - 1))), []))], [(1000000, .cells [.slx, .slx] [(0, .ex 139 true (List.map GCell.c (e349_.gCells ++ [c348_]))), (1, .ex 3 true (List.map cI.i64 e349_.gTrail))])], []⟩ _ (by kernel_rfl) (.cons (len_obl GCell.c (e349_.gCells ++ [c348_])) .nil) ?_
        refine Wc.ret ?_
        obtain rfl := Option.some.inj h
        exact ⟨.inl rfl, by kernel_rfl, by kernel_rfl⟩
theorem cimpl_put {k : Nat} {e346_ : GHeap} {j347_ : GTerm} {r : GHeap × Int} (h : pimpl_put k e346_ j347_ = some r) : FnO Try.prog 92 [.p [.slx, .slx] [(0, .ex 139 true (List.map GCell.c e346_.gCells)), (1, .ex 3 true (List.map cI.i64 e346_.gTrail))], .v (.agg [.int .i64 j347_.gKind, .str j347_.gName, .int .i64 j347_.gNum, .sl (List.map GTerm.c j347_.gKids)]) []] (.v (.int .i64 r.2) []) [(0, .p [.slx, .slx] [(0, .ex 139 true (List.map GCell.c r.1.gCells)), (1, .ex 3 true (List.map cI.i64 r.1.gTrail))])] := (all_pimpl_put k) h

def pimpl_copyHeap_d_L1 (k : Nat) (e370_ : GHeap) : Nat → Int → GHeap → Option (Out GHeap GHeap)
  | 0, _, _ => none
  | m + 1, b371_, e372_ =>
    if (decide (b371_ < (e370_.gCells.length : Int))) = true then
      (at' e370_.gCells b371_).bind fun c374_ =>
      if ([] : List Int).length + c374_.gKids.length ≤ 1073741824 then
        if e372_.gCells.length + [c374_].length ≤ 1073741824 then
          pimpl_copyHeap_d_L1 k e370_ m (wr.i64 (b371_ + 1)) (GHeap.mk (e372_.gCells ++ [c374_]) e372_.gTrail)
        else none
      else none
    else
      some (.done e372_)
/-- impl.copyHeap -/
def pimpl_copyHeap_d (k : Nat) (e370_ : GHeap) : Option GHeap :=
  if ([] : List Int).length + e370_.gTrail.length ≤ 1073741824 then
    (pimpl_copyHeap_d_L1 k e370_ k 0 (GHeap.mk [] e370_.gTrail)).bind fun out1 => match out1 with
    | .ret r => some r
    | .done e373_ =>
      some e373_
  else none
theorem cimpl_copyHeap_d {k : Nat} {e370_ : GHeap} {r : GHeap} (h : pimpl_copyHeap_d k e370_ = some r) : FnO Try.prog 91 [.v (.agg [.sl (List.map GCell.c e370_.gCells), .sl (List.map cI.i64 e370_.gTrail)]) []] (.v (.agg [.slx, .slx]) [(0, .ex 139 true (List.map GCell.c r.gCells)), (1, .ex 3 true (List.map cI.i64 r.gTrail))]) [] := by
  refine FnO.of Try.func91 (rfl : Try.f91.body = some _) (Nat.le_of_ble_eq_true (by kernel_rfl)) (Nat.le_of_ble_eq_true (by kernel_rfl)) ?_
  intro w0 X0 Fin pv0 pb
  unfold pimpl_copyHeap_d at h
  refine Wc.seq ?_
  refine Wc.region [] [] [1, 2] [1, 2] [] ⟨[(1, (.ptr 1 0, [])), (2, (.ptr 2 0, []))], [(1, .cells [.sl (List.map GCell.c e370_.gCells), .sl (List.map cI.i64 e370_.gTrail)] []), (2, .cells [.sl (List.map GCell.c []), .sl (List.map cI.i64 [])] [(0, .app 139), (1, .app 3)])], []⟩ _ (by kernel_rfl) .nil ?_
  refine Wc.seq ?_
  obtain ⟨h405, h⟩ := oguard h
  refine Wc.region [{}, {}, { c := some (List.map cI.i64 e370_.gTrail), md := 2 }, { tk := [8] }, {}, { tk := [9] }] [] [1, 2, 3] [1, 2, 3] [] ⟨[(1, (.ptr 1 0, [])), (2, (.ptr 2 0, [])), (3, (.ptr 3 0, []))], [(1, .cells [.sl (List.map GCell.c e370_.gCells), .sl (List.map cI.i64 e370_.gTrail)] []), (2, .cells [.sl (List.map GCell.c []), .sl (List.map cI.i64 [])] [(0, .app 139), (1, .app 3)]), (3, .cells [.sl (List.map GCell.c []), .slx] [(0, .app 139), (1, .ex 3 true (List.map cI.i64 e370_.gTrail))])], []⟩ _ (by kernel_rfl) (.cons (app_re0 cI.i64 e370_.gTrail) (.cons (app_scal (c := cI.i64) (ys := e370_.gTrail) cI.i64_scal) (.cons (app_obl2 (c := cI.i64) (xs := []) (ys := e370_.gTrail) cI.i64_len h405) .nil))) ?_
  refine Wc.seq ?_
  refine Wc.seq ?_
  refine Wc.region [{}, {}, { v := some (.int .i64 (e370_.gCells.length : Int)) }] [] [2, 3, 11, 12, 13] [2, 3] [] ⟨[(2, (.ptr 2 0, [])), (3, (.ptr 3 0, [])), (11, (.v (.sl (List.map GCell.c e370_.gCells)), [])), (12, (.v (.int .i64 (e370_.gCells.length : Int)), [])), (13, (.v (.int .i64 0), []))], [(2, .cells [.sl (List.map GCell.c []), .sl (List.map cI.i64 [])] [(0, .app 139), (1, .app 3)]), (3, .cells [.sl (List.map GCell.c []), .slx] [(0, .app 139), (1, .ex 3 true (List.map cI.i64 e370_.gTrail))])], []⟩ _ (by kernel_rfl) (.cons (len_obl GCell.c e370_.gCells) .nil) ?_
  obtain ⟨out1, h406, h⟩ := obind h
  refine Wc.lastJ (fun st => ∃ (e373_ : GHeap), out1 = .done e373_ ∧ st = ⟨[(2, (.ptr 2 0, [])), (3, (.ptr 3 0, []))], [(2, .cells [.slx, .slx] [(0, .ex 139 true (List.map GCell.c [])), (1, .ex 3 true (List.map cI.i64 []))]), (3, .cells [.slx, .slx] [(0, .ex 139 true (List.map GCell.c e373_.gCells)), (1, .ex 3 true (List.map cI.i64 e373_.gTrail))])], []⟩) ?_ ?_
  · refine Wc.block ?_
    refine Wc.fix (st' := ⟨[(2, (.ptr 2 0, [])), (3, (.ptr 3 0, [])), (11, (.v (.sl (List.map GCell.c e370_.gCells)), [])), (12, (.v (.int .i64 (e370_.gCells.length : Int)), [])), (13, (.v (.int .i64 0), []))], [(2, .cells [.slx, .slx] [(0, .ex 139 true (List.map GCell.c [])), (1, .ex 3 true (List.map cI.i64 []))]), (3, .cells [.slx, .slx] [(0, .ex 139 true (List.map GCell.c [])), (1, .ex 3 true (List.map cI.i64 e370_.gTrail))])], []⟩) [.ow (.b 2 0) true, .ow (.b 2 1) true, .ow (.b 3 0) true] [2, 3, 11, 12, 13] [2, 3] [] (by kernel_rfl) ?_
    refine Wc.loop (fun m st => ∃ (b371_ : Int) (e372_ : GHeap), st = ⟨[(2, (.ptr 2 0, [])), (3, (.ptr 3 0, [])), (11, (.v (.sl (List.map GCell.c e370_.gCells)), [])), (12, (.v (.int .i64 (e370_.gCells.length : Int)), [])), (13, (.v (.int .i64 b371_), []))], [(2, .cells [.slx, .slx] [(0, .ex 139 true (List.map GCell.c [])), (1, .ex 3 true (List.map cI.i64 []))]), (3, .cells [.slx, .slx] [(0, .ex 139 true (List.map GCell.c e372_.gCells)), (1, .ex 3 true (List.map cI.i64 e372_.gTrail))])], []⟩ ∧ pimpl_copyHeap_d_L1 k e370_ m b371_ e372_ = some out1) ?_ k ⟨_, _, rfl, h406⟩
    rintro m st ⟨b371_, e372_, rfl, h406⟩
    cases m with
    | zero => exact (onone h406).elim
    | succ m =>
      refine Wc.seq ?_
      refine Wc.region [] [] [2, 3, 11, 12, 13, 14] [2, 3] [] ⟨[(2, (.ptr 2 0, [])), (3, (.ptr 3 0, [])), (11, (.v (.sl (List.map GCell.c e370_.gCells)), [])), (12, (.v (.int .i64 (e370_.gCells.length : Int)), [])), (13, (.v (.int .i64 b371_), [])), (14, (.v (.bool (decide (b371_ < (e370_.gCells.length : Int)))), []))], [(2, .cells [.slx, .slx] [(0, .ex 139 true (List.map GCell.c [])), (1, .ex 3 true (List.map cI.i64 []))]), (3, .cells [.slx, .slx] [(0, .ex 139 true (List.map GCell.c e372_.gCells)), (1, .ex 3 true (List.map cI.i64 e372_.gTrail))])], []⟩ _ (by kernel_rfl) .nil ?_
      refine Wc.seq ?_
      rcases oif h406 with ⟨h407, h406⟩ | ⟨h407, h406⟩
      · refine Wc.condT h407 (by kernel_rfl) ?_
        refine Wc.fix (st' := ⟨[(2, (.ptr 2 0, [])), (3, (.ptr 3 0, [])), (11, (.v (.sl (List.map GCell.c e370_.gCells)), [])), (12, (.v (.int .i64 (e370_.gCells.length : Int)), [])), (13, (.v (.int .i64 b371_), []))], [(2, .cells [.slx, .slx] [(0, .ex 139 true (List.map GCell.c [])), (1, .ex 3 true (List.map cI.i64 []))]), (3, .cells [.slx, .slx] [(0, .ex 139 true (List.map GCell.c e372_.gCells)), (1, .ex 3 true (List.map cI.i64 e372_.gTrail))])], []⟩) [] [2, 3, 11, 12, 13] [2, 3] [] (by kernel_rfl) ?_
        refine Wc.skip ?_
        refine Wc.seq ?_
        refine Wc.block ?_
        refine Wc.seq ?_
        obtain ⟨c374_, h408, h406⟩ := obind h406
        refine Wc.region [{ v := some (.vptr [.int .i64 c374_.gKind, .str c374_.gName, .int .i64 c374_.gNum, .int .i64 c374_.gTo, .sl (List.map cI.i64 c374_.gKids)]) }] [] [2, 3, 5, 11, 12, 13] [2, 3, 5] [] ⟨[(2, (.ptr 2 0, [])), (3, (.ptr 3 0, [])), (5, (.ptr 5 0, [])), (11, (.v (.sl (List.map GCell.c e370_.gCells)), [])), (12, (.v (.int .i64 (e370_.gCells.length : Int)), [])), (13, (.v (.int .i64 b371_), []))], [(2, .cells [.slx, .slx] [(0, .ex 139 true (List.map GCell.c [])), (1, .ex 3 true (List.map cI.i64 []))]), (3, .cells [.slx, .slx] [(0, .ex 139 true (List.map GCell.c e372_.gCells)), (1, .ex 3 true (List.map cI.i64 e372_.gTrail))]), (5, .cells [.int .i64 c374_.gKind, .str c374_.gName, .int .i64 c374_.gNum, .int .i64 c374_.gTo, .sl (List.map cI.i64 c374_.gKids)] [])], []⟩ _ (by kernel_rfl) (.cons (at_obl (c := GCell.c) (GCell.c_eq c374_) GCell.c_len h408) (.cons (len_ok 5 [.int .i64 c374_.gKind, .str c374_.gName, .int .i64 c374_.gNum, .int .i64 c374_.gTo, .sl (List.map cI.i64 c374_.gKids)]) .nil)) ?_
        refine Wc.seq ?_
        obtain ⟨h409, h406⟩ := oguard h406
        refine Wc.region [{}, {}, { c := some (List.map cI.i64 c374_.gKids), md := 2 }, {}, { tk := [19] }] [] [2, 3, 5, 11, 12, 13] [2, 3, 5] [] ⟨[(2, (.ptr 2 0, [])), (3, (.ptr 3 0, [])), (5, (.ptr 5 0, [])), (11, (.v (.sl (List.map GCell.c e370_.gCells)), [])), (12, (.v (.int .i64 (e370_.gCells.length : Int)), [])), (13, (.v (.int .i64 b371_), []))], [(2, .cells [.slx, .slx] [(0, .ex 139 true (List.map GCell.c [])), (1, .ex 3 true (List.map cI.i64 []))]), (3, .cells [.slx, .slx] [(0, .ex 139 true (List.map GCell.c e372_.gCells)), (1, .ex 3 true (List.map cI.i64 e372_.gTrail))]), (5, .cells [.int .i64 c374_.gKind, .str c374_.gName, .int .i64 c374_.gNum, .int .i64 c374_.gTo, .slx] [(4, .ex 3 true (List.map cI.i64 c374_.gKids))])], []⟩ _ (by kernel_rfl) (.cons (app_re0 cI.i64 c374_.gKids) (.cons (app_scal (c := cI.i64) (ys := c374_.gKids) cI.i64_scal) (.cons (app_obl2 (c := cI.i64) (xs := []) (ys := c374_.gKids) cI.i64_len h409) .nil))) ?_
        obtain ⟨h410, h406⟩ := oguard h406
        refine Wc.region [{}, { md := 1 }, { md := 1 }, { c := some (List.map GCell.c [c374_]), tk := [23], md := 2 }, { c := some (List.map GCell.c (e372_.gCells ++ [c374_])), tk := [22, 24], md := 2 }, {}, { tk := [25] }] [.so 3] [2, 3, 11, 12, 13] [2, 3] [] ⟨[(2, (.ptr 2 0, [])), (3, (.ptr 3 0, [])), (11, (.v (.sl (List.map GCell.c e370_.gCells)), [])), (12, (.v (.int .i64 (e370_.gCells.length : Int)), [])), (13, (.v (.int .i64 b371_), []))], [(2, .cells [.slx, .slx] [(0, .ex 139 true (List.map GCell.c [])), (1, .ex 3 true (List.map cI.i64 []))]), (3, .cells [.slx, .slx] [(0, .ex 139 true (List.map GCell.c (e372_.gCells ++ [c374_]))), (1, .ex 3 true (List.map cI.i64 e372_.gTrail))])], []⟩ _ (by kernel_rfl) (.cons (cl_cons (c := GCell.c) (x := c374_) (GCell.c_eq c374_) (cl_nil GCell.c)) (.cons (app_re2 GCell.c e372_.gCells [c374_]) (.cons (app_obl2 (c := GCell.c) (xs := e372_.gCells) (ys := [c374_]) GCell.c_len h410) .nil))) ?_
        refine Wc.region [] [] [2, 3, 11, 12, 13] [2, 3] [] ⟨[(2, (.ptr 2 0, [])), (3, (.ptr 3 0, [])), (11, (.v (.sl (List.map GCell.c e370_.gCells)), [])), (12, (.v (.int .i64 (e370_.gCells.length : Int)), [])), (13, (.v (.int .i64 (wr.i64 (b371_ + 1))), []))], [(2, .cells [.slx, .slx] [(0, .ex 139 true (List.map GCell.c [])), (1, .ex 3 true (List.map cI.i64 []))]), (3, .cells [.slx, .slx] [(0, .ex 139 true (List.map GCell.c (e372_.gCells ++ [c374_]))), (1, .ex 3 true (List.map cI.i64 e372_.gTrail))])], []⟩ _ (by kernel_rfl) .nil ?_
        exact ⟨_, Nat.lt_succ_self _, _, _, rfl, h406⟩
      · refine Wc.condF h407 (by kernel_rfl) ?_
        refine Wc.fix (st' := ⟨[(2, (.ptr 2 0, [])), (3, (.ptr 3 0, []))], [(2, .cells [.slx, .slx] [(0, .ex 139 true (List.map GCell.c [])), (1, .ex 3 true (List.map cI.i64 []))]), (3, .cells [.slx, .slx] [(0, .ex 139 true (List.map GCell.c e372_.gCells)), (1, .ex 3 true (List.map cI.i64 e372_.gTrail))])], []⟩) [] [2, 3] [2, 3] [] (by kernel_rfl) ?_
        refine Wc.exit ?_
        obtain rfl := Option.some.inj h406
        exact ⟨_, rfl, rfl⟩
  · rintro st ⟨e373_, rfl, rfl⟩
    refine Wc.seq ?_
    refine Wc.region [{ md := 1 }, { tk := [28] }] [] [2] [2] [] ⟨[(2, (.ptr 2 0, []))], [(2, .cells [.slx, .slx] [(0, .ex 139 true (List.map GCell.c e373_.gCells)), (1, .ex 3 true (List.map cI.i64 e373_.gTrail))])], []⟩ _ (by kernel_rfl) .nil ?_
    refine Wc.ret ?_
    obtain rfl := Option.some.inj h
    exact ⟨.inl rfl, by kernel_rfl, by kernel_rfl⟩

/-- impl.PutTerm -/
def pimpl_PutTerm (k : Nat) (e368_ : GHeap) (j369_ : GTerm) : Option (GHeap × Int) :=
  (pimpl_HeapOk k e368_).bind fun l370_ =>
  if (!l370_) = true then
    (pimpl_copyHeap k e368_).bind fun e372_ =>
    some (e372_, -1)
  else
    (pimpl_TermOk k j369_).bind fun l371_ =>
    if (!l371_) = true then
      (pimpl_copyHeap k e368_).bind fun e373_ =>
      some (e373_, -1)
    else
      (pimpl_copyHeap_d k e368_).bind fun e374_ =>
      (pimpl_put k e374_ j369_).bind fun t375_ =>
      if (decide ((t375_.1.gCells.length : Int) > 60000)) = true then
        (pimpl_copyHeap k e368_).bind fun e376_ =>
        some (e376_, -1)
      else
        some (GHeap.mk t375_.1.gCells t375_.1.gTrail, t375_.2)
theorem cimpl_PutTerm {k : Nat} {e368_ : GHeap} {j369_ : GTerm} {r : GHeap × Int} (h : pimpl_PutTerm k e368_ j369_ = some r) : FnO Try.prog 37 [.v (.agg [.sl (List.map GCell.c e368_.gCells), .sl (List.map cI.i64 e368_.gTrail)]) [], .v (.agg [.int .i64 j369_.gKind, .str j369_.gName, .int .i64 j369_.gNum, .sl (List.map GTerm.c j369_.gKids)]) []] (.v (.tup [.agg [.sl (List.map GCell.c r.1.gCells), .sl (List.map cI.i64 r.1.gTrail)], .int .i64 r.2]) []) [] := by
  refine FnO.of Try.func37 (rfl : Try.f37.body = some _) (Nat.le_of_ble_eq_true (by kernel_rfl)) (Nat.le_of_ble_eq_true (by kernel_rfl)) ?_
  intro w0 X0 Fin pv0 pb
  unfold pimpl_PutTerm at h
  refine Wc.seq ?_
  refine Wc.region [] [] [2, 3, 4] [2, 3, 4] [] ⟨[(2, (.ptr 2 0, [])), (3, (.ptr 3 0, [])), (4, (.ptr 4 0, []))], [(2, .cells [.sl (List.map GCell.c e368_.gCells), .sl (List.map cI.i64 e368_.gTrail)] []), (3, .cells [.int .i64 j369_.gKind, .str j369_.gName, .int .i64 j369_.gNum, .sl (List.map GTerm.c j369_.gKids)] []), (4, .cells [.sl (List.map GCell.c []), .sl (List.map cI.i64 [])] [(0, .app 139), (1, .app 3)])], []⟩ _ (by kernel_rfl) .nil ?_
  refine Wc.seq ?_
  refine Wc.seq ?_
  obtain ⟨l370_, h403, h⟩ := obind h
  rcases oif h with ⟨h404, h⟩ | ⟨h404, h⟩
  · refine Wc.region [{}, { r := some (.v (.bool l370_) []) }, {}, { re := some (.bool true) }] [] [2, 3, 4, 15] [2, 3, 4] [] ⟨[(2, (.ptr 2 0, [])), (3, (.ptr 3 0, [])), (4, (.ptr 4 0, [])), (15, (.v (.bool true), []))], [(2, .cells [.sl (List.map GCell.c e368_.gCells), .sl (List.map cI.i64 e368_.gTrail)] []), (3, .cells [.int .i64 j369_.gKind, .str j369_.gName, .int .i64 j369_.gNum, .sl (List.map GTerm.c j369_.gKids)] []), (4, .cells [.sl (List.map GCell.c []), .sl (List.map cI.i64 [])] [(0, .app 139), (1, .app 3)])], []⟩ _ (by kernel_rfl) (.cons (cimpl_HeapOk h403) (.cons (congrArg AV.bool h404) .nil)) ?_
    refine Wc.condT rfl (by kernel_rfl) ?_
    refine Wc.seq ?_
    obtain ⟨e372_, h406, h⟩ := obind h
    refine Wc.region [{}, { r := some (.v (.agg [.sl (List.map GCell.c e372_.gCells), .sl (List.map cI.i64 e372_.gTrail)]) [(0, .app 139), (1, .app 3)]) }, { tk := [17] }] [] [4, 5] [4] [] ⟨[(4, (.ptr 4 0, [])), (5, (.v (.int .i64 (-1)), []))], [(4, .cells [.sl (List.map GCell.c e372_.gCells), .sl (List.map cI.i64 e372_.gTrail)] [(0, .app 139), (1, .app 3)])], []⟩ _ (by kernel_rfl) (.cons (cimpl_copyHeap h406) .nil) ?_
    refine Wc.fix (st' := ⟨[(4, (.ptr 4 0, [])), (5, (.v (.int .i64 (-1)), []))], [(4, .cells [.sl (List.map GCell.c e372_.gCells), .sl (List.map cI.i64 e372_.gTrail)] [])], []⟩) [.un (.b 4 0), .un (.b 4 1)] [4, 5] [4] [] (by kernel_rfl) ?_
    refine Wc.ret ?_
    obtain rfl := Option.some.inj h
    exact ⟨.inl rfl, by kernel_rfl, by kernel_rfl⟩
  · obtain ⟨l371_, h405, h⟩ := obind h
    refine Wc.region [{}, { r := some (.v (.bool l370_) []) }, {}, { re := some (.bool false) }, {}, { r := some (.v (.bool l371_) []) }] [] [2, 3, 4, 15] [2, 3, 4] [] ⟨[(2, (.ptr 2 0, [])), (3, (.ptr 3 0, [])), (4, (.ptr 4 0, [])), (15, (.v (.bool (!l371_)), []))], [(2, .cells [.sl (List.map GCell.c e368_.gCells), .sl (List.map cI.i64 e368_.gTrail)] []), (3, .cells [.int .i64 j369_.gKind, .str j369_.gName, .int .i64 j369_.gNum, .sl (List.map GTerm.c j369_.gKids)] []), (4, .cells [.sl (List.map GCell.c []), .sl (List.map cI.i64 [])] [(0, .app 139), (1, .app 3)])], []⟩ _ (by kernel_rfl) (.cons (cimpl_HeapOk h403) (.cons (congrArg AV.bool h404) (.cons (cimpl_TermOk h405) .nil))) ?_
    rcases oif h with ⟨h407, h⟩ | ⟨h407, h⟩
    · refine Wc.condT h407 (by kernel_rfl) ?_
      refine Wc.seq ?_
      obtain ⟨e373_, h408, h⟩ := obind h
      refine Wc.region [{}, { r := some (.v (.agg [.sl (List.map GCell.c e373_.gCells), .sl (List.map cI.i64 e373_.gTrail)]) [(0, .app 139), (1, .app 3)]) }, { tk := [17] }] [] [4, 5] [4] [] ⟨[(4, (.ptr 4 0, [])), (5, (.v (.int .i64 (-1)), []))], [(4, .cells [.sl (List.map GCell.c e373_.gCells), .sl (List.map cI.i64 e373_.gTrail)] [(0, .app 139), (1, .app 3)])], []⟩ _ (by kernel_rfl) (.cons (cimpl_copyHeap h408) .nil) ?_
      refine Wc.fix (st' := ⟨[(4, (.ptr 4 0, [])), (5, (.v (.int .i64 (-1)), []))], [(4, .cells [.sl (List.map GCell.c e373_.gCells), .sl (List.map cI.i64 e373_.gTrail)] [])], []⟩) [.un (.b 4 0), .un (.b 4 1)] [4, 5] [4] [] (by kernel_rfl) ?_
      refine Wc.ret ?_
      obtain rfl := Option.some.inj h
      exact ⟨.inl rfl, by kernel_rfl, by kernel_rfl⟩
    · refine Wc.condF h407 (by kernel_rfl) ?_
      refine Wc.fix (st' := ⟨[(2, (.ptr 2 0, [])), (3, (.ptr 3 0, [])), (4, (.ptr 4 0, []))], [(2, .cells [.sl (List.map GCell.c e368_.gCells), .sl (List.map cI.i64 e368_.gTrail)] []), (3, .cells [.int .i64 j369_.gKind, .str j369_.gName, .int .i64 j369_.gNum, .sl (List.map GTerm.c j369_.gKids)] []), (4, .cells [.sl (List.map GCell.c []), .sl (List.map cI.i64 [])] [(0, .app 139), (1, .app 3)])], []⟩) [] [2, 3, 4] [2, 3, 4] [] (by kernel_rfl) ?_
      refine Wc.skip ?_
      refine Wc.seq ?_
      obtain ⟨e374_, h409, h⟩ := obind h
      refine Wc.region [{}, { r := some (.v (.agg [.slx, .slx]) [(0, .ex 139 true (List.map GCell.c e374_.gCells)), (1, .ex 3 true (List.map cI.i64 e374_.gTrail))]) }, {}, { tk := [19] }] [] [2, 3, 4, 6] [2, 3, 4, 6] [] ⟨[(2, (.ptr 2 0, [])), (3, (.ptr 3 0, [])), (4, (.ptr 4 0, [])), (6, (.ptr 6 0, []))], [(2, .cells [.sl (List.map GCell.c e368_.gCells), .sl (List.map cI.i64 e368_.gTrail)] []), (3, .cells [.int .i64 j369_.gKind, .str j369_.gName, .int .i64 j369_.gNum, .sl (List.map GTerm.c j369_.gKids)] []), (4, .cells [.sl (List.map GCell.c []), .sl (List.map cI.i64 [])] [(0, .app 139), (1, .app 3)]), (6, .cells [.slx, .slx] [(0, .ex 139 true (List.map GCell.c e374_.gCells)), (1, .ex 3 true (List.map cI.i64 e374_.gTrail))])], []⟩ _ (by kernel_rfl) (.cons (cimpl_copyHeap_d h409) .nil) ?_
      refine Wc.seq ?_
      obtain ⟨t375_, h410, h⟩ := obind h
      refine Wc.region [{}, { r := some (.v (.int .i64 t375_.2) []), outs := [(0, .p [.slx, .slx] [(0, .ex 139 true (List.map GCell.c t375_.1.gCells)), (1, .ex 3 true (List.map cI.i64 t375_.1.gTrail))])] }] [] [2, 4, 6, 7] [2, 4, 6] [] ⟨[(2, (.ptr 2 0, [])), (4, (.ptr 4 0, [])), (6, (.ptr 6 0, [])), (7, (.v (.int .i64 t375_.2), []))], [(2, .cells [.sl (List.map GCell.c e368_.gCells), .sl (List.map cI.i64 e368_.gTrail)] []), (4, .cells [.sl (List.map GCell.c []), .sl (List.map cI.i64 [])] [(0, .app 139), (1, .app 3)]), (6, .cells [.slx, .slx] [(0, .ex 139 true (List.map GCell.c t375_.1.gCells)), (1, .ex 3 true (List.map cI.i64 t375_.1.gTrail))])], []⟩ _ (by kernel_rfl) (.cons (cimpl_put h410) .nil) ?_
      refine Wc.seq ?_
      refine Wc.seq ?_
      refine Wc.region [{}, {}, { v := some (.int .i64 (t375_.1.gCells.length : Int)) }] [] [2, 4, 6, 7, 25] [2, 4, 6] [] ⟨[(2, (.ptr 2 0, [])), (4, (.ptr 4 0, [])), (6, (.ptr 6 0, [])), (7, (.v (.int .i64 t375_.2), [])), (25, (.v (.bool (decide ((t375_.1.gCells.length : Int) > 60000))), []))], [(2, .cells [.sl (List.map GCell.c e368_.gCells), .sl (List.map cI.i64 e368_.gTrail)] []), (4, .cells [.sl (List.map GCell.c []), .sl (List.map cI.i64 [])] [(0, .app 139), (1, .app 3)]), (6, .cells [.slx, .slx] [(0, .ex 139 true (List.map GCell.c t375_.1.gCells)), (1, .ex 3 true (List.map cI.i64 t375_.1.gTrail))])], []⟩ _ (by kernel_rfl) (.cons (len_obl GCell.c t375_.1.gCells) .nil) ?_
      rcases oif h with ⟨h411, h⟩ | ⟨h411, h⟩
      · refine Wc.condT h411 (by kernel_rfl) ?_
        refine Wc.seq ?_
        obtain ⟨e376_, h412, h⟩ := obind h
        refine Wc.region [{}, { r := some (.v (.agg [.sl (List.map GCell.c e376_.gCells), .sl (List.map cI.i64 e376_.gTrail)]) [(0, .app 139), (1, .app 3)]) }, { tk := [27] }] [] [4, 5] [4] [] ⟨[(4, (.ptr 4 0, [])), (5, (.v (.int .i64 (-1)), []))], [(4, .cells [.sl (List.map GCell.c e376_.gCells), .sl (List.map cI.i64 e376_.gTrail)] [(0, .app 139), (1, .app 3)])], []⟩ _ (by kernel_rfl) (.cons (cimpl_copyHeap h412) .nil) ?_
        refine Wc.fix (st' := ⟨[(4, (.ptr 4 0, [])), (5, (.v (.int .i64 (-1)), []))], [(4, .cells [.sl (List.map GCell.c e376_.gCells), .sl (List.map cI.i64 e376_.gTrail)] [])], []⟩) [.un (.b 4 0), .un (.b 4 1)] [4, 5] [4] [] (by kernel_rfl) ?_
        refine Wc.ret ?_
        obtain rfl := Option.some.inj h
        exact ⟨.inl rfl, by kernel_rfl, by kernel_rfl⟩
      · refine Wc.condF h411 (by kernel_rfl) ?_
        refine Wc.fix (st' := ⟨[(4, (.ptr 4 0, [])), (6, (.ptr 6 0, [])), (7, (.v (.int .i64 t375_.2), []))], [(4, .cells [.sl (List.map GCell.c []), .sl (List.map cI.i64 [])] [(0, .app 139), (1, .app 3)]), (6, .cells [.slx, .slx] [(0, .ex 139 true (List.map GCell.c t375_.1.gCells)), (1, .ex 3 true (List.map cI.i64 t375_.1.gTrail))])], []⟩) [] [4, 6, 7] [4, 6] [] (by kernel_rfl) ?_
        refine Wc.skip ?_
        refine Wc.seq ?_
        refine Wc.region [{ md := 1 }, {}, { tk := [28] }] [] [4, 5] [4] [] ⟨[(4, (.ptr 4 0, [])), (5, (.v (.int .i64 t375_.2), []))], [(4, .cells [.slx, .slx] [(0, .ex 139 true (List.map GCell.c t375_.1.gCells)), (1, .ex 3 true (List.map cI.i64 t375_.1.gTrail))])], []⟩ _ (by kernel_rfl) .nil ?_
        refine Wc.fix (st' := ⟨[(4, (.ptr 4 0, [])), (5, (.v (.int .i64 t375_.2), []))], [(4, .cells [.sl (List.map GCell.c t375_.1.gCells), .sl (List.map cI.i64 t375_.1.gTrail)] [])], []⟩) [.sh (.b 4 0), .sh (.b 4 1)] [4, 5] [4] [] (by kernel_rfl) ?_
        refine Wc.ret ?_
        obtain rfl := Option.some.inj h
        exact ⟨.inl rfl, by kernel_rfl, by kernel_rfl⟩
end Go.Proofs.Ytgfpmdaihkdhkaa

/- What the functions do, part 2. -/
import Derived.Test.YtjgagbajgdmocaaFna
set_option linter.unusedVariables false
set_option linter.unusedSimpArgs false
namespace Go.Proofs.Ytjgagbajgdmocaa
open Go.RowKit Go.Bv
def plaws_toTermS_d_L1 (k : Nat) (rlaws_toTerm_d : GTerm → Option GTerm) (rlaws_toTermS_d : (List GTerm) → Option (List GTerm)) (a218_ : List GTerm) : Nat → (List GTerm) → Int → Option (Out (List GTerm) (List GTerm))
  | 0, _, _ => none
  | m + 1, a219_, b220_ =>
    if (decide (b220_ < (a218_.length : Int))) = true then
      (at' a218_ b220_).bind fun c222_ =>
      (rlaws_toTerm_d c222_).bind fun c223_ =>
      (at' a219_ b220_).bind fun c224_ =>
      plaws_toTermS_d_L1 k rlaws_toTerm_d rlaws_toTermS_d a218_ m (a219_.set ((b220_).toNat) c223_) (wr.i64 (b220_ + 1))
    else
      some (.done a219_)
mutual
/-- laws.toTerm -/
def plaws_toTerm_d : Nat → GTerm → Option GTerm
  | 0, _ => none
  | k + 1, c216_ =>
    (plaws_toTermS_d k c216_.gKids).bind fun g217_ =>
    some (GTerm.mk c216_.gKind c216_.gName c216_.gNum g217_)
/-- laws.toTermS -/
def plaws_toTermS_d : Nat → (List GTerm) → Option (List GTerm)
  | 0, _ => none
  | k + 1, a218_ =>
    if 0 ≤ (a218_.length : Int) ∧ (a218_.length : Int) ≤ 1073741824 then
      (plaws_toTermS_d_L1 k (plaws_toTerm_d k) (plaws_toTermS_d k) a218_ k (List.replicate ((a218_.length : Int)).toNat (GTerm.mk 0 (bs []) 0 [])) 0).bind fun out1 => match out1 with
      | .ret r => some r
      | .done a221_ =>
        some a221_
    else none
end
theorem all_plaws_toTerm_d : ∀ k : Nat, (∀ {c216_ : GTerm} {r : GTerm}, plaws_toTerm_d k c216_ = some r → FnO Try.prog 35 [.v (.agg [.int .i64 c216_.gKind, .str c216_.gName, .int .i64 c216_.gNum, .sl (List.map GTerm.c c216_.gKids)]) []] (.v (.agg [.int .i64 r.gKind, .str r.gName, .int .i64 r.gNum, .slx]) [(3, .ex 40 true (List.map GTerm.c r.gKids))]) []) ∧
    (∀ {a218_ : List GTerm} {r : (List GTerm)}, plaws_toTermS_d k a218_ = some r → FnO Try.prog 42 [.v (.sl (List.map GTerm.c a218_)) []] (.v (.slx) [(0, .ex 40 true (List.map GTerm.c r))]) []) := by
  intro k
  induction k with
  | zero =>
    refine ⟨?_, ?_⟩
    · intro c216_ r h
      exact (onone (by rw [plaws_toTerm_d] at h; exact h)).elim
    · intro a218_ r h
      exact (onone (by rw [plaws_toTermS_d] at h; exact h)).elim
  | succ k ih =>
    obtain ⟨ih_plaws_toTerm_d, ih_plaws_toTermS_d⟩ := ih
    refine ⟨?_, ?_⟩
    · intro c216_ r h
      rw [plaws_toTerm_d] at h
      refine FnO.of Try.func35 (rfl : Try.f35.body = some _) (Nat.le_of_ble_eq_true (by kernel_rfl)) (Nat.le_of_ble_eq_true (by kernel_rfl)) ?_
      intro w0 X0 Fin pv0 pb
      refine Wc.seq ?_
      refine Wc.region [] [] [1, 2] [1, 2] [] ⟨[(1, (.ptr 1 0, [])), (2, (.ptr 2 0, []))], [(1, .cells [.int .i64 c216_.gKind, .str c216_.gName, .int .i64 c216_.gNum, .sl (List.map GTerm.c c216_.gKids)] []), (2, .cells [.int .i64 0, .str (bs []), .int .i64 0, .sl (List.map GTerm.c [])] [(3, .app 40)])], []⟩ _ (by kernel_rfl) .nil ?_
      refine Wc.seq ?_
      refine Wc.region [] [] [1, 2, 3] [1, 2, 3] [] ⟨[(1, (.ptr 1 0, [])), (2, (.ptr 2 0, [])), (3, (.ptr 3 0, []))], [(1, .cells [.int .i64 c216_.gKind, .str c216_.gName, .int .i64 c216_.gNum, .sl (List.map GTerm.c c216_.gKids)] []), (2, .cells [.int .i64 0, .str (bs []), .int .i64 0, .sl (List.map GTerm.c [])] [(3, .app 40)]), (3, .cells [.int .i64 0, .str (bs []), .int .i64 0, .sl (List.map GTerm.c [])] [(3, .app 40)])], []⟩ _ (by kernel_rfl) .nil ?_
      refine Wc.seq ?_
      refine Wc.region [] [] [1, 2, 3] [1, 2, 3] [] ⟨[(1, (.ptr 1 0, [])), (2, (.ptr 2 0, [])), (3, (.ptr 3 0, []))], [(1, .cells [.int .i64 c216_.gKind, .str c216_.gName, .int .i64 c216_.gNum, .sl (List.map GTerm.c c216_.gKids)] []), (2, .cells [.int .i64 0, .str (bs []), .int .i64 0, .sl (List.map GTerm.c [])] [(3, .app 40)]), (3, .cells [.int .i64 c216_.gKind, .str (bs []), .int .i64 0, .sl (List.map GTerm.c [])] [(3, .app 40)])], []⟩ _ (by kernel_rfl) .nil ?_
      refine Wc.seq ?_
      refine Wc.region [] [] [1, 2, 3] [1, 2, 3] [] ⟨[(1, (.ptr 1 0, [])), (2, (.ptr 2 0, [])), (3, (.ptr 3 0, []))], [(1, .cells [.int .i64 c216_.gKind, .str c216_.gName, .int .i64 c216_.gNum, .sl (List.map GTerm.c c216_.gKids)] []), (2, .cells [.int .i64 0, .str (bs []), .int .i64 0, .sl (List.map GTerm.c [])] [(3, .app 40)]), (3, .cells [.int .i64 c216_.gKind, .str c216_.gName, .int .i64 0, .sl (List.map GTerm.c [])] [(3, .app 40)])], []⟩ _ (by kernel_rfl) .nil ?_
      refine Wc.seq ?_
      refine Wc.region [] [] [1, 2, 3] [1, 2, 3] [] ⟨[(1, (.ptr 1 0, [])), (2, (.ptr 2 0, [])), (3, (.ptr 3 0, []))], [(1, .cells [.int .i64 c216_.gKind, .str c216_.gName, .int .i64 c216_.gNum, .sl (List.map GTerm.c c216_.gKids)] []), (2, .cells [.int .i64 0, .str (bs []), .int .i64 0, .sl (List.map GTerm.c [])] [(3, .app 40)]), (3, .cells [.int .i64 c216_.gKind, .str c216_.gName, .int .i64 c216_.gNum, .sl (List.map GTerm.c [])] [(3, .app 40)])], []⟩ _ (by kernel_rfl) .nil ?_
      refine Wc.seq ?_
      obtain ⟨g217_, h219, h⟩ := obind h
      refine Wc.region [{}, {}, { r := some (.v (.slx) [(0, .ex 40 true (List.map GTerm.c g217_))]) }, {}, { tk := [15] }] [] [2, 3] [2, 3] [] ⟨[(2, (.ptr 2 0, [])), (3, (.ptr 3 0, []))], [(2, .cells [.int .i64 0, .str (bs []), .int .i64 0, .sl (List.map GTerm.c [])] [(3, .app 40)]), (3, .cells [.int .i64 c216_.gKind, .str c216_.gName, .int .i64 c216_.gNum, .slx] [(3, .ex 40 true (List.map GTerm.c g217_))])], []⟩ _ (by kernel_rfl) (.cons (ih_plaws_toTermS_d h219) .nil) ?_
      refine Wc.seq ?_
      refine Wc.region [{ md := 1 }, { tk := [17] }] [] [2] [2] [] ⟨[(2, (.ptr 2 0, []))], [(2, .cells [.int .i64 c216_.gKind, .str c216_.gName, .int .i64 c216_.gNum, .slx] [(3, .ex 40 true (List.map GTerm.c g217_))])], []⟩ _ (by kernel_rfl) .nil ?_
      refine Wc.ret ?_
      obtain rfl := Option.some.inj h
      exact ⟨.inl rfl, by kernel_rfl, by kernel_rfl⟩
    · intro a218_ r h
      rw [plaws_toTermS_d] at h
      refine FnO.of Try.func42 (rfl : Try.f42.body = some _) (Nat.le_of_ble_eq_true (by kernel_rfl)) (Nat.le_of_ble_eq_true (by kernel_rfl)) ?_
      intro w0 X0 Fin pv0 pb
      refine Wc.seq ?_
      refine Wc.region [] [] [0] [] [] ⟨[(0, (.v (.sl (List.map GTerm.c a218_)), []))], [], []⟩ _ (by kernel_rfl) .nil ?_
      refine Wc.seq ?_
      obtain ⟨h220, h⟩ := oguard h
      refine Wc.region [{}, { v := some (.int .i64 (a218_.length : Int)) }, { c := some (List.map GTerm.c (List.replicate ((a218_.length : Int)).toNat (GTerm.mk 0 (bs []) 0 []))) }, { tk := [7] }] [] [0, 3] [] [] ⟨[(0, (.v (.sl (List.map GTerm.c a218_)), [])), (3, (.v (.slx), [(0, .ex 40 true (List.map GTerm.c (List.replicate ((a218_.length : Int)).toNat (GTerm.mk 0 (bs []) 0 []))))]))], [], []⟩ _ (by kernel_rfl) (.cons (len_obl GTerm.c a218_) (.cons (rep_re (c := GTerm.c) (GTerm.c_eq (GTerm.mk 0 (bs []) 0 [])) ((a218_.length : Int)).toNat) (.cons (ms_obl h220) .nil))) ?_
      refine Wc.seq ?_
      refine Wc.seq ?_
      refine Wc.region [] [] [0, 3, 4] [] [] ⟨[(0, (.v (.sl (List.map GTerm.c a218_)), [])), (3, (.v (.slx), [(0, .ex 40 true (List.map GTerm.c (List.replicate ((a218_.length : Int)).toNat (GTerm.mk 0 (bs []) 0 []))))])), (4, (.v (.int .i64 0), []))], [], []⟩ _ (by kernel_rfl) .nil ?_
      obtain ⟨out1, h221, h⟩ := obind h
      refine Wc.lastJ (fun st => ∃ (a221_ : List GTerm), out1 = .done a221_ ∧ st = ⟨[(3, (.v (.slx), [(0, .ex 40 true (List.map GTerm.c a221_))]))], [], []⟩) ?_ ?_
      · refine Wc.block ?_
        refine Wc.loop (fun m st => ∃ (a219_ : List GTerm) (b220_ : Int), st = ⟨[(0, (.v (.sl (List.map GTerm.c a218_)), [])), (3, (.v (.slx), [(0, .ex 40 true (List.map GTerm.c a219_))])), (4, (.v (.int .i64 b220_), []))], [], []⟩ ∧ plaws_toTermS_d_L1 k (plaws_toTerm_d k) (plaws_toTermS_d k) a218_ m a219_ b220_ = some out1) ?_ k ⟨_, _, rfl, h221⟩
        rintro m st ⟨a219_, b220_, rfl, h221⟩
        cases m with
        | zero => exact (onone h221).elim
        | succ m =>
          refine Wc.seq ?_
          refine Wc.seq ?_
          refine Wc.region [{}, {}, { v := some (.int .i64 (a218_.length : Int)) }] [] [0, 3, 4, 11] [] [] ⟨[(0, (.v (.sl (List.map GTerm.c a218_)), [])), (3, (.v (.slx), [(0, .ex 40 true (List.map GTerm.c a219_))])), (4, (.v (.int .i64 b220_), [])), (11, (.v (.bool (decide (b220_ < (a218_.length : Int)))), []))], [], []⟩ _ (by kernel_rfl) (.cons (len_obl GTerm.c a218_) .nil) ?_
          rcases oif h221 with ⟨h222, h221⟩ | ⟨h222, h221⟩
          · refine Wc.condT h222 (by kernel_rfl) ?_
            refine Wc.fix (st' := ⟨[(0, (.v (.sl (List.map GTerm.c a218_)), [])), (3, (.v (.slx), [(0, .ex 40 true (List.map GTerm.c a219_))])), (4, (.v (.int .i64 b220_), []))], [], []⟩) [] [0, 3, 4] [] [] (by kernel_rfl) ?_
            refine Wc.skip ?_
            refine Wc.seq ?_
            refine Wc.block ?_
            obtain ⟨c222_, h223, h221⟩ := obind h221
            obtain ⟨c223_, h224, h221⟩ := obind h221
            obtain ⟨c224_, h225, h221⟩ := obind h221
            refine Wc.region [{}, {}, {}, {}, { v := some (.vptr [.int .i64 c222_.gKind, .str c222_.gName, .int .i64 c222_.gNum, .sl (List.map GTerm.c c222_.gKids)]) }, {}, { r := some (.v (.agg [.int .i64 c223_.gKind, .str c223_.gName, .int .i64 c223_.gNum, .slx]) [(3, .ex 40 true (List.map GTerm.c c223_.gKids))]) }, {}, { c := some (List.map GTerm.c (a219_.set ((b220_).toNat) c223_)), tk := [20] }] [] [0, 3, 4] [] [] ⟨[(0, (.v (.sl (List.map GTerm.c a218_)), [])), (3, (.v (.slx), [(0, .ex 40 true (List.map GTerm.c (a219_.set ((b220_).toNat) c223_)))])), (4, (.v (.int .i64 b220_), []))], [], []⟩ _ (by kernel_rfl) (.cons (at_obl (c := GTerm.c) (GTerm.c_eq c222_) GTerm.c_len h223) (.cons (len_ok 4 [.int .i64 c222_.gKind, .str c222_.gName, .int .i64 c222_.gNum, .sl (List.map GTerm.c c222_.gKids)]) (.cons (ih_plaws_toTerm_d h224) (.cons (ix_obl (c := GTerm.c) GTerm.c_len h225) (.cons (mod_obl (off := 0) (new := [.int .i64 c223_.gKind, .str c223_.gName, .int .i64 c223_.gNum, .sl (List.map GTerm.c c223_.gKids)]) (c := GTerm.c) (GTerm.c_eq c224_) (GTerm.c_eq c223_) (at'_spec h225).2 rfl) (.cons (st_obl (sz := 4) (off := 0) (s := 4) (c := GTerm.c) (GTerm.c_eq c224_) (at'_spec h225).2 rfl (Nat.le_of_ble_eq_true rfl)) .nil)))))) ?_
            refine Wc.region [] [] [0, 3, 4] [] [] ⟨[(0, (.v (.sl (List.map GTerm.c a218_)), [])), (3, (.v (.slx), [(0, .ex 40 true (List.map GTerm.c (a219_.set ((b220_).toNat) c223_)))])), (4, (.v (.int .i64 (wr.i64 (b220_ + 1))), []))], [], []⟩ _ (by kernel_rfl) .nil ?_
            exact ⟨_, Nat.lt_succ_self _, _, _, rfl, h221⟩
          · refine Wc.condF h222 (by kernel_rfl) ?_
            refine Wc.fix (st' := ⟨[(3, (.v (.slx), [(0, .ex 40 true (List.map GTerm.c a219_))]))], [], []⟩) [] [3] [] [] (by kernel_rfl) ?_
            refine Wc.exit ?_
            obtain rfl := Option.some.inj h221
            exact ⟨_, rfl, rfl⟩
      · rintro st ⟨a221_, rfl, rfl⟩
        refine Wc.seq ?_
        refine Wc.region [{ tk := [3] }, { tk := [22] }] [] [2] [] [] ⟨[(2, (.v (.slx), [(0, .ex 40 true (List.map GTerm.c a221_))]))], [], []⟩ _ (by kernel_rfl) .nil ?_
        refine Wc.ret ?_
        obtain rfl := Option.some.inj h
        exact ⟨.inl rfl, by kernel_rfl, by kernel_rfl⟩
theorem claws_toTerm_d {k : Nat} {c216_ : GTerm} {r : GTerm} (h : plaws_toTerm_d k c216_ = some r) : FnO Try.prog 35 [.v (.agg [.int .i64 c216_.gKind, .str c216_.gName, .int .i64 c216_.gNum, .sl (List.map GTerm.c c216_.gKids)]) []] (.v (.agg [.int .i64 r.gKind, .str r.gName, .int .i64 r.gNum, .slx]) [(3, .ex 40 true (List.map GTerm.c r.gKids))]) [] := (all_plaws_toTerm_d k).1 h
theorem claws_toTermS_d {k : Nat} {a218_ : List GTerm} {r : (List GTerm)} (h : plaws_toTermS_d k a218_ = some r) : FnO Try.prog 42 [.v (.sl (List.map GTerm.c a218_)) []] (.v (.slx) [(0, .ex 40 true (List.map GTerm.c r))]) [] := (all_plaws_toTerm_d k).2 h

/-- impl.ListTerm -/
def pimpl_ListTerm_d (k : Nat) (a214_ : List GTerm) : Option GTerm :=
  (pimpl_atom_d k (bs [91, 93])).bind fun c215_ =>
  (pimpl_listOf_d k a214_ c215_).bind fun c216_ =>
  if (decide ((a214_.length : Int) ≤ 400)) = true then
    (pimpl_TermOk k c216_).bind fun d217_ =>
    if d217_ = true then
      some c216_
    else
      (pimpl_atom_d k (bs [91, 93])).bind fun c218_ =>
      some c218_
  else
    (pimpl_atom_d k (bs [91, 93])).bind fun c219_ =>
    some c219_
theorem cimpl_ListTerm_d {k : Nat} {a214_ : List GTerm} {r : GTerm} (h : pimpl_ListTerm_d k a214_ = some r) : FnO Try.prog 43 [.v (.sl (List.map GTerm.c a214_)) []] (.v (.agg [.int .i64 r.gKind, .str r.gName, .int .i64 r.gNum, .slx]) [(3, .ex 40 true (List.map GTerm.c r.gKids))]) [] := by
  refine FnO.of Try.func43 (rfl : Try.f43.body = some _) (Nat.le_of_ble_eq_true (by kernel_rfl)) (Nat.le_of_ble_eq_true (by kernel_rfl)) ?_
  intro w0 X0 Fin pv0 pb
  unfold pimpl_ListTerm_d at h
  refine Wc.seq ?_
  refine Wc.region [] [] [0, 2] [2] [] ⟨[(0, (.v (.sl (List.map GTerm.c a214_)), [])), (2, (.ptr 2 0, []))], [(2, .cells [.int .i64 0, .str (bs []), .int .i64 0, .sl (List.map GTerm.c [])] [(3, .app 40)])], []⟩ _ (by kernel_rfl) .nil ?_
  refine Wc.seq ?_
  refine Wc.seq ?_
  obtain ⟨c215_, h220, h⟩ := obind h
  obtain ⟨c216_, h221, h⟩ := obind h
  refine Wc.region [{}, { r := some (.v (.agg [.int .i64 c215_.gKind, .str c215_.gName, .int .i64 c215_.gNum, .slx]) [(3, .ex 40 true (List.map GTerm.c c215_.gKids))]) }, { tk := [5], r := some (.v (.agg [.int .i64 c216_.gKind, .str c216_.gName, .int .i64 c216_.gNum, .slx]) [(3, .ex 40 true (List.map GTerm.c c216_.gKids))]) }, {}, { tk := [6] }] [] [0, 2, 3] [2, 3] [] ⟨[(0, (.v (.sl (List.map GTerm.c a214_)), [])), (2, (.ptr 2 0, [])), (3, (.ptr 3 0, []))], [(2, .cells [.int .i64 0, .str (bs []), .int .i64 0, .sl (List.map GTerm.c [])] [(3, .app 40)]), (3, .cells [.int .i64 c216_.gKind, .str c216_.gName, .int .i64 c216_.gNum, .slx] [(3, .ex 40 true (List.map GTerm.c c216_.gKids))])], []⟩ _ (by kernel_rfl) (.cons (cimpl_atom_d h220) (.cons (cimpl_listOf_d h221) .nil)) ?_
  refine Wc.seq ?_
  rcases oif h with ⟨h222, h⟩ | ⟨h222, h⟩
  · obtain ⟨d217_, h223, h⟩ := obind h
    refine Wc.region [{}, { v := some (.int .i64 (a214_.length : Int)) }, {}, { re := some (.bool true) }, {}, { r := some (.v (.bool d217_) []) }] [] [2, 3, 13] [2, 3] [] ⟨[(2, (.ptr 2 0, [])), (3, (.ptr 3 0, [])), (13, (.v (.bool d217_), []))], [(2, .cells [.int .i64 0, .str (bs []), .int .i64 0, .sl (List.map GTerm.c [])] [(3, .app 40)]), (3, .cells [.int .i64 c216_.gKind, .str c216_.gName, .int .i64 c216_.gNum, .slx] [(3, .ex 40 true (List.map GTerm.c c216_.gKids))])], []⟩ _ (by kernel_rfl) (.cons (len_obl GTerm.c a214_) (.cons (congrArg AV.bool h222) (.cons (cimpl_TermOk h223) .nil))) ?_
    rcases oif h with ⟨h224, h⟩ | ⟨h224, h⟩
    · refine Wc.condT h224 (by kernel_rfl) ?_
      refine Wc.seq ?_
      refine Wc.region [{ md := 1 }, { tk := [14] }] [] [2] [2] [] ⟨[(2, (.ptr 2 0, []))], [(2, .cells [.int .i64 c216_.gKind, .str c216_.gName, .int .i64 c216_.gNum, .slx] [(3, .ex 40 true (List.map GTerm.c c216_.gKids))])], []⟩ _ (by kernel_rfl) .nil ?_
      refine Wc.ret ?_
      obtain rfl := Option.some.inj h
      exact ⟨.inl rfl, by kernel_rfl, by kernel_rfl⟩
    · refine Wc.condF h224 (by kernel_rfl) ?_
      refine Wc.fix (st' := ⟨[(2, (.ptr 2 0, []))], [(2, .cells [.int .i64 0, .str (bs []), .int .i64 0, .sl (List.map GTerm.c [])] [(3, .app 40)])], []⟩) [] [2] [2] [] (by kernel_rfl) ?_
      refine Wc.skip ?_
      refine Wc.seq ?_
      obtain ⟨c218_, h225, h⟩ := obind h
      refine Wc.region [{ r := some (.v (.agg [.int .i64 c218_.gKind, .str c218_.gName, .int .i64 c218_.gNum, .slx]) [(3, .ex 40 true (List.map GTerm.c c218_.gKids))]) }, { tk := [15] }] [] [2] [2] [] ⟨[(2, (.ptr 2 0, []))], [(2, .cells [.int .i64 c218_.gKind, .str c218_.gName, .int .i64 c218_.gNum, .slx] [(3, .ex 40 true (List.map GTerm.c c218_.gKids))])], []⟩ _ (by kernel_rfl) (.cons (cimpl_atom_d h225) .nil) ?_
      refine Wc.ret ?_
      obtain rfl := Option.some.inj h
      exact ⟨.inl rfl, by kernel_rfl, by kernel_rfl⟩
  · refine Wc.region [{}, { v := some (.int .i64 (a214_.length : Int)) }, {}, { re := some (.bool false) }] [] [2, 3, 13] [2, 3] [] ⟨[(2, (.ptr 2 0, [])), (3, (.ptr 3 0, [])), (13, (.v (.bool false), []))], [(2, .cells [.int .i64 0, .str (bs []), .int .i64 0, .sl (List.map GTerm.c [])] [(3, .app 40)]), (3, .cells [.int .i64 c216_.gKind, .str c216_.gName, .int .i64 c216_.gNum, .slx] [(3, .ex 40 true (List.map GTerm.c c216_.gKids))])], []⟩ _ (by kernel_rfl) (.cons (len_obl GTerm.c a214_) (.cons (congrArg AV.bool h222) .nil)) ?_
    refine Wc.condF rfl (by kernel_rfl) ?_
    refine Wc.fix (st' := ⟨[(2, (.ptr 2 0, []))], [(2, .cells [.int .i64 0, .str (bs []), .int .i64 0, .sl (List.map GTerm.c [])] [(3, .app 40)])], []⟩) [] [2] [2] [] (by kernel_rfl) ?_
    refine Wc.skip ?_
    refine Wc.seq ?_
    obtain ⟨c219_, h226, h⟩ := obind h
    refine Wc.region [{ r := some (.v (.agg [.int .i64 c219_.gKind, .str c219_.gName, .int .i64 c219_.gNum, .slx]) [(3, .ex 40 true (List.map GTerm.c c219_.gKids))]) }, { tk := [15] }] [] [2] [2] [] ⟨[(2, (.ptr 2 0, []))], [(2, .cells [.int .i64 c219_.gKind, .str c219_.gName, .int .i64 c219_.gNum, .slx] [(3, .ex 40 true (List.map GTerm.c c219_.gKids))])], []⟩ _ (by kernel_rfl) (.cons (cimpl_atom_d h226) .nil) ?_
    refine Wc.ret ?_
    obtain rfl := Option.some.inj h
    exact ⟨.inl rfl, by kernel_rfl, by kernel_rfl⟩

/-- laws.FnExactListTerm -/
def plaws_FnExactListTerm (k : Nat) (a203_ : List GTerm) : Option Bool :=
  (plaws_szTermS k a203_ 1048576).bind fun b204_ =>
  if (decide (b204_ < 0)) = true then
    some true
  else
    (plaws_toTermS k a203_).bind fun g205_ =>
    (pspec_ListTerm k g205_).bind fun c206_ =>
    (plaws_toTermS_d k a203_).bind fun g207_ =>
    (pimpl_ListTerm_d k g207_).bind fun c208_ =>
    (plaws_eqTerm k c208_ c206_).bind fun d209_ =>
    if (!d209_) = true then
      some false
    else
      (plaws_toTermS k a203_).bind fun g210_ =>
      (plaws_eqTermS k g207_ g210_).bind fun d211_ =>
      if (!d211_) = true then
        some false
      else
        (plaws_markTermS k g207_ 1).bind fun f212_ =>
        if (decide (f212_.2 < 0)) = true then
          some false
        else
          (plaws_eqTerm k c208_ c206_).bind fun d213_ =>
          if (!d213_) = true then
            some false
          else
            (plaws_markTerm k c208_ 1).bind fun i214_ =>
            (plaws_heldTerm k (GTerm.mk c208_.gKind c208_.gName c208_.gNum i214_.1.gKids) 1).bind fun b215_ =>
            if (decide (b215_ < 0)) = true then
              some false
            else
              if (b215_ != i214_.2) = true then
                some false
              else
                (plaws_toTermS k a203_).bind fun g216_ =>
                (pimpl_ListTerm k g216_).bind fun c217_ =>
                (plaws_eqTerm k c217_ c206_).bind fun d218_ =>
                if (!d218_) = true then
                  some false
                else
                  (plaws_heldTerm k (GTerm.mk c208_.gKind c208_.gName c208_.gNum i214_.1.gKids) 1).bind fun b219_ =>
                  if (decide (b219_ < 0)) = true then
                    some false
                  else
                    if (b219_ != i214_.2) = true then
                      some false
                    else
                      some true
theorem claws_FnExactListTerm {k : Nat} {a203_ : List GTerm} {r : Bool} (h : plaws_FnExactListTerm k a203_ = some r) : FnO Try.prog 8 [.v (.sl (List.map GTerm.c a203_)) []] (.v (.bool r) []) [] := by
  refine FnO.of Try.func8 (rfl : Try.f8.body = some _) (Nat.le_of_ble_eq_true (by kernel_rfl)) (Nat.le_of_ble_eq_true (by kernel_rfl)) ?_
  intro w0 X0 Fin pv0 pb
  unfold plaws_FnExactListTerm at h
  refine Wc.seq ?_
  refine Wc.region [] [] [0] [] [] ⟨[(0, (.v (.sl (List.map GTerm.c a203_)), []))], [], []⟩ _ (by kernel_rfl) .nil ?_
  refine Wc.seq ?_
  refine Wc.region [] [] [0, 3] [] [] ⟨[(0, (.v (.sl (List.map GTerm.c a203_)), [])), (3, (.v (.int .i64 1048576), []))], [], []⟩ _ (by kernel_rfl) .nil ?_
  refine Wc.seq ?_
  obtain ⟨b204_, h208, h⟩ := obind h
  refine Wc.region [{}, {}, { r := some (.v (.int .i64 b204_) []) }] [] [0, 3] [] [] ⟨[(0, (.v (.sl (List.map GTerm.c a203_)), [])), (3, (.v (.int .i64 b204_), []))], [], []⟩ _ (by kernel_rfl) (.cons (claws_szTermS h208) .nil) ?_
  refine Wc.seq ?_
  refine Wc.seq ?_
  refine Wc.region [] [] [0, 15] [] [] ⟨[(0, (.v (.sl (List.map GTerm.c a203_)), [])), (15, (.v (.bool (decide (b204_ < 0))), []))], [], []⟩ _ (by kernel_rfl) .nil ?_
  rcases oif h with ⟨h209, h⟩ | ⟨h209, h⟩
  · refine Wc.condT h209 (by kernel_rfl) ?_
    refine Wc.seq ?_
    refine Wc.region [] [] [2] [] [] ⟨[(2, (.v (.bool true), []))], [], []⟩ _ (by kernel_rfl) .nil ?_
    refine Wc.ret ?_
    obtain rfl := Option.some.inj h
    exact ⟨.inl rfl, by kernel_rfl, by kernel_rfl⟩
  · refine Wc.condF h209 (by kernel_rfl) ?_
    refine Wc.fix (st' := ⟨[(0, (.v (.sl (List.map GTerm.c a203_)), []))], [], []⟩) [] [0] [] [] (by kernel_rfl) ?_
    refine Wc.skip ?_
    refine Wc.seq ?_
    obtain ⟨g205_, h210, h⟩ := obind h
    obtain ⟨c206_, h211, h⟩ := obind h
    refine Wc.region [{}, { r := some (.v (.sl (List.map GTerm.c g205_)) []) }, { r := some (.v (.agg [.int .i64 c206_.gKind, .str c206_.gName, .int .i64 c206_.gNum, .sl (List.map GTerm.c c206_.gKids)]) [(3, .app 40)]) }, {}, { tk := [18] }] [] [0, 4] [4] [] ⟨[(0, (.v (.sl (List.map GTerm.c a203_)), [])), (4, (.ptr 4 0, []))], [(4, .cells [.int .i64 c206_.gKind, .str c206_.gName, .int .i64 c206_.gNum, .sl (List.map GTerm.c c206_.gKids)] [(3, .app 40)])], []⟩ _ (by kernel_rfl) (.cons (claws_toTermS h210) (.cons (cspec_ListTerm h211) .nil)) ?_
    refine Wc.seq ?_
    obtain ⟨g207_, h212, h⟩ := obind h
    refine Wc.region [{}, { r := some (.v (.slx) [(0, .ex 40 true (List.map GTerm.c g207_))]) }, { tk := [20] }] [] [0, 4, 5] [4] [] ⟨[(0, (.v (.sl (List.map GTerm.c a203_)), [])), (4, (.ptr 4 0, [])), (5, (.v (.slx), [(0, .ex 40 true (List.map GTerm.c g207_))]))], [(4, .cells [.int .i64 c206_.gKind, .str c206_.gName, .int .i64 c206_.gNum, .sl (List.map GTerm.c c206_.gKids)] [(3, .app 40)])], []⟩ _ (by kernel_rfl) (.cons (claws_toTermS_d h212) .nil) ?_
    refine Wc.seq ?_
    obtain ⟨c208_, h213, h⟩ := obind h
    refine Wc.region [{}, { r := some (.v (.agg [.int .i64 c208_.gKind, .str c208_.gName, .int .i64 c208_.gNum, .slx]) [(3, .ex 40 true (List.map GTerm.c c208_.gKids))]) }, {}, { tk := [22] }] [] [0, 4, 5, 6] [4, 6] [] ⟨[(0, (.v (.sl (List.map GTerm.c a203_)), [])), (4, (.ptr 4 0, [])), (5, (.v (.slx), [(0, .ex 40 true (List.map GTerm.c g207_))])), (6, (.ptr 6 0, []))], [(4, .cells [.int .i64 c206_.gKind, .str c206_.gName, .int .i64 c206_.gNum, .sl (List.map GTerm.c c206_.gKids)] [(3, .app 40)]), (6, .cells [.int .i64 c208_.gKind, .str c208_.gName, .int .i64 c208_.gNum, .slx] [(3, .ex 40 true (List.map GTerm.c c208_.gKids))])], []⟩ _ (by kernel_rfl) (.cons (cimpl_ListTerm_d h213) .nil) ?_
    refine Wc.seq ?_
    refine Wc.seq ?_
    obtain ⟨d209_, h214, h⟩ := obind h
    refine Wc.region [{}, {}, { r := some (.v (.bool d209_) []) }] [] [0, 4, 5, 6, 26] [4, 6] [] ⟨[(0, (.v (.sl (List.map GTerm.c a203_)), [])), (4, (.ptr 4 0, [])), (5, (.v (.slx), [(0, .ex 40 true (List.map GTerm.c g207_))])), (6, (.ptr 6 0, [])), (26, (.v (.bool (!d209_)), []))], [(4, .cells [.int .i64 c206_.gKind, .str c206_.gName, .int .i64 c206_.gNum, .sl (List.map GTerm.c c206_.gKids)] [(3, .app 40)]), (6, .cells [.int .i64 c208_.gKind, .str c208_.gName, .int .i64 c208_.gNum, .slx] [(3, .ex 40 true (List.map GTerm.c c208_.gKids))])], []⟩ _ (by kernel_rfl) (.cons (claws_eqTerm h214) .nil) ?_
    rcases oif h with ⟨h215, h⟩ | ⟨h215, h⟩
    · refine Wc.condT h215 (by kernel_rfl) ?_
      refine Wc.seq ?_
      refine Wc.region [] [] [2] [] [] ⟨[(2, (.v (.bool false), []))], [], []⟩ _ (by kernel_rfl) .nil ?_
      refine Wc.ret ?_
      obtain rfl := Option.some.inj h
      exact ⟨.inl rfl, by kernel_rfl, by kernel_rfl⟩
    · refine Wc.condF h215 (by kernel_rfl) ?_
      refine Wc.fix (st' := ⟨[(0, (.v (.sl (List.map GTerm.c a203_)), [])), (4, (.ptr 4 0, [])), (5, (.v (.slx), [(0, .ex 40 true (List.map GTerm.c g207_))])), (6, (.ptr 6 0, []))], [(4, .cells [.int .i64 c206_.gKind, .str c206_.gName, .int .i64 c206_.gNum, .sl (List.map GTerm.c c206_.gKids)] [(3, .app 40)]), (6, .cells [.int .i64 c208_.gKind, .str c208_.gName, .int .i64 c208_.gNum, .slx] [(3, .ex 40 true (List.map GTerm.c c208_.gKids))])], []⟩) [] [0, 4, 5, 6] [4, 6] [] (by kernel_rfl) ?_
      refine Wc.skip ?_
      refine Wc.seq ?_
      refine Wc.seq ?_
      obtain ⟨g210_, h216, h⟩ := obind h
      obtain ⟨d211_, h217, h⟩ := obind h
      refine Wc.region [{}, {}, { r := some (.v (.sl (List.map GTerm.c g210_)) []) }, { r := some (.v (.bool d211_) []) }] [] [0, 4, 5, 6, 31] [4, 6] [] ⟨[(0, (.v (.sl (List.map GTerm.c a203_)), [])), (4, (.ptr 4 0, [])), (5, (.v (.slx), [(0, .ex 40 true (List.map GTerm.c g207_))])), (6, (.ptr 6 0, [])), (31, (.v (.bool (!d211_)), []))], [(4, .cells [.int .i64 c206_.gKind, .str c206_.gName, .int .i64 c206_.gNum, .sl (List.map GTerm.c c206_.gKids)] [(3, .app 40)]), (6, .cells [.int .i64 c208_.gKind, .str c208_.gName, .int .i64 c208_.gNum, .slx] [(3, .ex 40 true (List.map GTerm.c c208_.gKids))])], []⟩ _ (by kernel_rfl) (.cons (claws_toTermS h216) (.cons (claws_eqTermS h217) .nil)) ?_
      rcases oif h with ⟨h218, h⟩ | ⟨h218, h⟩
      · refine Wc.condT h218 (by kernel_rfl) ?_
        refine Wc.seq ?_
        refine Wc.region [] [] [2] [] [] ⟨[(2, (.v (.bool false), []))], [], []⟩ _ (by kernel_rfl) .nil ?_
        refine Wc.ret ?_
        obtain rfl := Option.some.inj h
        exact ⟨.inl rfl, by kernel_rfl, by kernel_rfl⟩
      · refine Wc.condF h218 (by kernel_rfl) ?_
        refine Wc.fix (st' := ⟨[(0, (.v (.sl (List.map GTerm.c a203_)), [])), (4, (.ptr 4 0, [])), (5, (.v (.slx), [(0, .ex 40 true (List.map GTerm.c g207_))])), (6, (.ptr 6 0, []))], [(4, .cells [.int .i64 c206_.gKind, .str c206_.gName, .int .i64 c206_.gNum, .sl (List.map GTerm.c c206_.gKids)] [(3, .app 40)]), (6, .cells [.int .i64 c208_.gKind, .str c208_.gName, .int .i64 c208_.gNum, .slx] [(3, .ex 40 true (List.map GTerm.c c208_.gKids))])], []⟩) [] [0, 4, 5, 6] [4, 6] [] (by kernel_rfl) ?_
        refine Wc.skip ?_
        refine Wc.seq ?_
        refine Wc.region [] [] [0, 4, 5, 6, 7] [4, 6] [] ⟨[(0, (.v (.sl (List.map GTerm.c a203_)), [])), (4, (.ptr 4 0, [])), (5, (.v (.slx), [(0, .ex 40 true (List.map GTerm.c g207_))])), (6, (.ptr 6 0, [])), (7, (.v (.int .i64 1), []))], [(4, .cells [.int .i64 c206_.gKind, .str c206_.gName, .int .i64 c206_.gNum, .sl (List.map GTerm.c c206_.gKids)] [(3, .app 40)]), (6, .cells [.int .i64 c208_.gKind, .str c208_.gName, .int .i64 c208_.gNum, .slx] [(3, .ex 40 true (List.map GTerm.c c208_.gKids))])], []⟩ _ (by kernel_rfl) .nil ?_
        refine Wc.seq ?_
        obtain ⟨f212_, h219, h⟩ := obind h
        refine Wc.region [{}, {}, { io := [0], r := some (.v (.int .i64 f212_.2) []), outs := [(0, .v .undef [(0, .ex 1000000007 true (List.map GTerm.c f212_.1))])] }] [] [0, 4, 6, 7] [4, 6] [] ⟨[(0, (.v (.sl (List.map GTerm.c a203_)), [])), (4, (.ptr 4 0, [])), (6, (.ptr 6 0, [])), (7, (.v (.int .i64 f212_.2), []))], [(4, .cells [.int .i64 c206_.gKind, .str c206_.gName, .int .i64 c206_.gNum, .sl (List.map GTerm.c c206_.gKids)] [(3, .app 40)]), (6, .cells [.int .i64 c208_.gKind, .str c208_.gName, .int .i64 c208_.gNum, .slx] [(3, .ex 40 true (List.map GTerm.c c208_.gKids))])], []⟩ _ (by kernel_rfl) (.cons (FnO.any (args := [.io (.slx) [(0, .ex 40 true (List.map GTerm.c g207_))], .v (.int .i64 1) []]) (claws_markTermS h219)) .nil) ?_
        refine Wc.seq ?_
        refine Wc.seq ?_
        rcases oif h with ⟨h220, h⟩ | ⟨h220, h⟩
        · refine Wc.region [{}, {}, { re := some (.bool true) }] [] [0, 4, 6, 42] [4, 6] [] ⟨[(0, (.v (.sl (List.map GTerm.c a203_)), [])), (4, (.ptr 4 0, [])), (6, (.ptr 6 0, [])), (42, (.v (.bool true), []))], [(4, .cells [.int .i64 c206_.gKind, .str c206_.gName, .int .i64 c206_.gNum, .sl (List.map GTerm.c c206_.gKids)] [(3, .app 40)]), (6, .cells [.int .i64 c208_.gKind, .str c208_.gName, .int .i64 c208_.gNum, .slx] [(3, .ex 40 true (List.map GTerm.c c208_.gKids))])], []⟩ _ (by kernel_rfl) (.cons (congrArg AV.bool h220) .nil) ?_
          refine Wc.condT rfl (by kernel_rfl) ?_
          refine Wc.seq ?_
          refine Wc.region [] [] [2] [] [] ⟨[(2, (.v (.bool false), []))], [], []⟩ _ (by kernel_rfl) .nil ?_
          refine Wc.ret ?_
          obtain rfl := Option.some.inj h
          exact ⟨.inl rfl, by kernel_rfl, by kernel_rfl⟩
        · obtain ⟨d213_, h221, h⟩ := obind h
          refine Wc.region [{}, {}, { re := some (.bool false) }, {}, {}, { r := some (.v (.bool d213_) []) }] [] [0, 4, 6, 42] [4, 6] [] ⟨[(0, (.v (.sl (List.map GTerm.c a203_)), [])), (4, (.ptr 4 0, [])), (6, (.ptr 6 0, [])), (42, (.v (.bool (!d213_)), []))], [(4, .cells [.int .i64 c206_.gKind, .str c206_.gName, .int .i64 c206_.gNum, .sl (List.map GTerm.c c206_.gKids)] [(3, .app 40)]), (6, .cells [.int .i64 c208_.gKind, .str c208_.gName, .int .i64 c208_.gNum, .slx] [(3, .ex 40 true (List.map GTerm.c c208_.gKids))])], []⟩ _ (by kernel_rfl) (.cons (congrArg AV.bool h220) (.cons (claws_eqTerm h221) .nil)) ?_
          rcases oif h with ⟨h222, h⟩ | ⟨h222, h⟩
          · refine Wc.condT h222 (by kernel_rfl) ?_
            refine Wc.seq ?_
            refine Wc.region [] [] [2] [] [] ⟨[(2, (.v (.bool false), []))], [], []⟩ _ (by kernel_rfl) .nil ?_
            refine Wc.ret ?_
            obtain rfl := Option.some.inj h
            exact ⟨.inl rfl, by kernel_rfl, by kernel_rfl⟩
          · refine Wc.condF h222 (by kernel_rfl) ?_
            refine Wc.fix (st' := ⟨[(0, (.v (.sl (List.map GTerm.c a203_)), [])), (4, (.ptr 4 0, [])), (6, (.ptr 6 0, []))], [(4, .cells [.int .i64 c206_.gKind, .str c206_.gName, .int .i64 c206_.gNum, .sl (List.map GTerm.c c206_.gKids)] [(3, .app 40)]), (6, .cells [.int .i64 c208_.gKind, .str c208_.gName, .int .i64 c208_.gNum, .slx] [(3, .ex 40 true (List.map GTerm.c c208_.gKids))])], []⟩) [] [0, 4, 6] [4, 6] [] (by kernel_rfl) ?_
            refine Wc.skip ?_
            refine Wc.seq ?_
            refine Wc.region [] [] [0, 4, 6, 8] [4, 6] [] ⟨[(0, (.v (.sl (List.map GTerm.c a203_)), [])), (4, (.ptr 4 0, [])), (6, (.ptr 6 0, [])), (8, (.v (.int .i64 1), []))], [(4, .cells [.int .i64 c206_.gKind, .str c206_.gName, .int .i64 c206_.gNum, .sl (List.map GTerm.c c206_.gKids)] [(3, .app 40)]), (6, .cells [.int .i64 c208_.gKind, .str c208_.gName, .int .i64 c208_.gNum, .slx] [(3, .ex 40 true (List.map GTerm.c c208_.gKids))])], []⟩ _ (by kernel_rfl) .nil ?_
            refine Wc.seq ?_
            obtain ⟨i214_, h223, h⟩ := obind h
            refine Wc.region [{}, {}, { io := [0], r := some (.v (.int .i64 i214_.2) []), outs := [(0, .v .undef [(3, .ex 1000000007 true (List.map GTerm.c i214_.1.gKids))])] }] [] [0, 4, 6, 8] [4, 6] [] ⟨[(0, (.v (.sl (List.map GTerm.c a203_)), [])), (4, (.ptr 4 0, [])), (6, (.ptr 6 0, [])), (8, (.v (.int .i64 i214_.2), []))], [(4, .cells [.int .i64 c206_.gKind, .str c206_.gName, .int .i64 c206_.gNum, .sl (List.map GTerm.c c206_.gKids)] [(3, .app 40)]), (6, .cells [.int .i64 c208_.gKind, .str c208_.gName, .int .i64 c208_.gNum, .slx] [(3, .ex 1000000007 true (List.map GTerm.c i214_.1.gKids))])], []⟩ _ (by kernel_rfl) (.cons (FnO.any (args := [.io (.agg [.int .i64 c208_.gKind, .str c208_.gName, .int .i64 c208_.gNum, .slx]) [(3, .ex 40 true (List.map GTerm.c c208_.gKids))], .v (.int .i64 1) []]) (claws_markTerm h223)) .nil) ?_
            refine Wc.seq ?_
            refine Wc.region [] [] [0, 4, 6, 8, 9] [4, 6] [] ⟨[(0, (.v (.sl (List.map GTerm.c a203_)), [])), (4, (.ptr 4 0, [])), (6, (.ptr 6 0, [])), (8, (.v (.int .i64 i214_.2), [])), (9, (.v (.int .i64 1), []))], [(4, .cells [.int .i64 c206_.gKind, .str c206_.gName, .int .i64 c206_.gNum, .sl (List.map GTerm.c c206_.gKids)] [(3, .app 40)]), (6, .cells [.int .i64 c208_.gKind, .str c208_.gName, .int .i64 c208_.gNum, .slx] [(3, .ex 1000000007 true (List.map GTerm.c i214_.1.gKids))])], []⟩ _ (by kernel_rfl) .nil ?_
            refine Wc.seq ?_
            obtain ⟨b215_, h224, h⟩ := obind h
            refine Wc.region [{}, {}, { r := some (.v (.int .i64 b215_) []) }] [] [0, 4, 6, 8, 9] [4, 6] [] ⟨[(0, (.v (.sl (List.map GTerm.c a203_)), [])), (4, (.ptr 4 0, [])), (6, (.ptr 6 0, [])), (8, (.v (.int .i64 i214_.2), [])), (9, (.v (.int .i64 b215_), []))], [(4, .cells [.int .i64 c206_.gKind, .str c206_.gName, .int .i64 c206_.gNum, .sl (List.map GTerm.c c206_.gKids)] [(3, .app 40)]), (6, .cells [.int .i64 c208_.gKind, .str c208_.gName, .int .i64 c208_.gNum, .slx] [(3, .ex 1000000007 true (List.map GTerm.c i214_.1.gKids))])], []⟩ _ (by kernel_rfl) (.cons (claws_heldTerm h224) .nil) ?_
            refine Wc.seq ?_
            refine Wc.seq ?_
            refine Wc.region [] [] [0, 4, 6, 8, 9, 50] [4, 6] [] ⟨[(0, (.v (.sl (List.map GTerm.c a203_)), [])), (4, (.ptr 4 0, [])), (6, (.ptr 6 0, [])), (8, (.v (.int .i64 i214_.2), [])), (9, (.v (.int .i64 b215_), [])), (50, (.v (.bool (decide (b215_ < 0))), []))], [(4, .cells [.int .i64 c206_.gKind, .str c206_.gName, .int .i64 c206_.gNum, .sl (List.map GTerm.c c206_.gKids)] [(3, .app 40)]), (6, .cells [.int .i64 c208_.gKind, .str c208_.gName, .int .i64 c208_.gNum, .slx] [(3, .ex 1000000007 true (List.map GTerm.c i214_.1.gKids))])], []⟩ _ (by kernel_rfl) .nil ?_
            rcases oif h with ⟨h225, h⟩ | ⟨h225, h⟩
            · refine Wc.condT h225 (by kernel_rfl) ?_
              refine Wc.seq ?_
              refine Wc.region [] [] [2] [] [] ⟨[(2, (.v (.bool false), []))], [], []⟩ _ (by kernel_rfl) .nil ?_
              refine Wc.ret ?_
              obtain rfl := Option.some.inj h
              exact ⟨.inl rfl, by kernel_rfl, by kernel_rfl⟩
            · refine Wc.condF h225 (by kernel_rfl) ?_
              refine Wc.fix (st' := ⟨[(0, (.v (.sl (List.map GTerm.c a203_)), [])), (4, (.ptr 4 0, [])), (6, (.ptr 6 0, [])), (8, (.v (.int .i64 i214_.2), [])), (9, (.v (.int .i64 b215_), []))], [(4, .cells [.int .i64 c206_.gKind, .str c206_.gName, .int .i64 c206_.gNum, .sl (List.map GTerm.c c206_.gKids)] [(3, .app 40)]), (6, .cells [.int .i64 c208_.gKind, .str c208_.gName, .int .i64 c208_.gNum, .slx] [(3, .ex 1000000007 true (List.map GTerm.c i214_.1.gKids))])], []⟩) [] [0, 4, 6, 8, 9] [4, 6] [] (by kernel_rfl) ?_
              refine Wc.skip ?_
              refine Wc.seq ?_
              refine Wc.seq ?_
              refine Wc.region [] [] [0, 4, 6, 8, 53] [4, 6] [] ⟨[(0, (.v (.sl (List.map GTerm.c a203_)), [])), (4, (.ptr 4 0, [])), (6, (.ptr 6 0, [])), (8, (.v (.int .i64 i214_.2), [])), (53, (.v (.bool (b215_ != i214_.2)), []))], [(4, .cells [.int .i64 c206_.gKind, .str c206_.gName, .int .i64 c206_.gNum, .sl (List.map GTerm.c c206_.gKids)] [(3, .app 40)]), (6, .cells [.int .i64 c208_.gKind, .str c208_.gName, .int .i64 c208_.gNum, .slx] [(3, .ex 1000000007 true (List.map GTerm.c i214_.1.gKids))])], []⟩ _ (by kernel_rfl) .nil ?_
              rcases oif h with ⟨h226, h⟩ | ⟨h226, h⟩
              · refine Wc.condT h226 (by kernel_rfl) ?_
                refine Wc.seq ?_
                refine Wc.region [] [] [2] [] [] ⟨[(2, (.v (.bool false), []))], [], []⟩ _ (by kernel_rfl) .nil ?_
                refine Wc.ret ?_
                obtain rfl := Option.some.inj h
                exact ⟨.inl rfl, by kernel_rfl, by kernel_rfl⟩
              · refine Wc.condF h226 (by kernel_rfl) ?_
                refine Wc.fix (st' := ⟨[(0, (.v (.sl (List.map GTerm.c a203_)), [])), (4, (.ptr 4 0, [])), (6, (.ptr 6 0, [])), (8, (.v (.int .i64 i214_.2), []))], [(4, .cells [.int .i64 c206_.gKind, .str c206_.gName, .int .i64 c206_.gNum, .sl (List.map GTerm.c c206_.gKids)] [(3, .app 40)]), (6, .cells [.int .i64 c208_.gKind, .str c208_.gName, .int .i64 c208_.gNum, .slx] [(3, .ex 1000000007 true (List.map GTerm.c i214_.1.gKids))])], []⟩) [] [0, 4, 6, 8] [4, 6] [] (by kernel_rfl) ?_
                refine Wc.skip ?_
                refine Wc.seq ?_
                obtain ⟨g216_, h227, h⟩ := obind h
                obtain ⟨c217_, h228, h⟩ := obind h
                refine Wc.region [{}, { r := some (.v (.sl (List.map GTerm.c g216_)) []) }, { r := some (.v (.agg [.int .i64 c217_.gKind, .str c217_.gName, .int .i64 c217_.gNum, .sl (List.map GTerm.c c217_.gKids)]) []) }] [] [4, 6, 8, 10] [4, 6, 10] [] ⟨[(4, (.ptr 4 0, [])), (6, (.ptr 6 0, [])), (8, (.v (.int .i64 i214_.2), [])), (10, (.ptr 10 0, []))], [(4, .cells [.int .i64 c206_.gKind, .str c206_.gName, .int .i64 c206_.gNum, .sl (List.map GTerm.c c206_.gKids)] [(3, .app 40)]), (6, .cells [.int .i64 c208_.gKind, .str c208_.gName, .int .i64 c208_.gNum, .slx] [(3, .ex 1000000007 true (List.map GTerm.c i214_.1.gKids))]), (10, .cells [.int .i64 c217_.gKind, .str c217_.gName, .int .i64 c217_.gNum, .sl (List.map GTerm.c c217_.gKids)] [])], []⟩ _ (by kernel_rfl) (.cons (claws_toTermS h227) (.cons (cimpl_ListTerm h228) .nil)) ?_
                refine Wc.seq ?_
                refine Wc.seq ?_
                obtain ⟨d218_, h229, h⟩ := obind h
                refine Wc.region [{}, {}, { r := some (.v (.bool d218_) []) }] [] [6, 8, 60] [6] [] ⟨[(6, (.ptr 6 0, [])), (8, (.v (.int .i64 i214_.2), [])), (60, (.v (.bool (!d218_)), []))], [(6, .cells [.int .i64 c208_.gKind, .str c208_.gName, .int .i64 c208_.gNum, .slx] [(3, .ex 1000000007 true (List.map GTerm.c i214_.1.gKids))])], []⟩ _ (by kernel_rfl) (.cons (claws_eqTerm h229) .nil) ?_
                rcases oif h with ⟨h230, h⟩ | ⟨h230, h⟩
                · refine Wc.condT h230 (by kernel_rfl) ?_
                  refine Wc.seq ?_
                  refine Wc.region [] [] [2] [] [] ⟨[(2, (.v (.bool false), []))], [], []⟩ _ (by kernel_rfl) .nil ?_
                  refine Wc.ret ?_
                  obtain rfl := Option.some.inj h
                  exact ⟨.inl rfl, by kernel_rfl, by kernel_rfl⟩
                · refine Wc.condF h230 (by kernel_rfl) ?_
                  refine Wc.fix (st' := ⟨[(6, (.ptr 6 0, [])), (8, (.v (.int .i64 i214_.2), []))], [(6, .cells [.int .i64 c208_.gKind, .str c208_.gName, .int .i64 c208_.gNum, .slx] [(3, .ex 1000000007 true (List.map GTerm.c i214_.1.gKids))])], []⟩) [] [6, 8] [6] [] (by kernel_rfl) ?_
                  refine Wc.skip ?_
                  refine Wc.seq ?_
                  refine Wc.region [] [] [6, 8, 9] [6] [] ⟨[(6, (.ptr 6 0, [])), (8, (.v (.int .i64 i214_.2), [])), (9, (.v (.int .i64 1), []))], [(6, .cells [.int .i64 c208_.gKind, .str c208_.gName, .int .i64 c208_.gNum, .slx] [(3, .ex 1000000007 true (List.map GTerm.c i214_.1.gKids))])], []⟩ _ (by kernel_rfl) .nil ?_
                  refine Wc.seq ?_
                  obtain ⟨b219_, h231, h⟩ := obind h
                  refine Wc.region [{}, {}, { r := some (.v (.int .i64 b219_) []) }] [] [8, 9] [] [] ⟨[(8, (.v (.int .i64 i214_.2), [])), (9, (.v (.int .i64 b219_), []))], [], []⟩ _ (by kernel_rfl) (.cons (claws_heldTerm h231) .nil) ?_
                  refine Wc.seq ?_
                  refine Wc.seq ?_
                  refine Wc.region [] [] [8, 9, 65] [] [] ⟨[(8, (.v (.int .i64 i214_.2), [])), (9, (.v (.int .i64 b219_), [])), (65, (.v (.bool (decide (b219_ < 0))), []))], [], []⟩ _ (by kernel_rfl) .nil ?_
                  rcases oif h with ⟨h232, h⟩ | ⟨h232, h⟩
                  · refine Wc.condT h232 (by kernel_rfl) ?_
                    refine Wc.seq ?_
                    refine Wc.region [] [] [2] [] [] ⟨[(2, (.v (.bool false), []))], [], []⟩ _ (by kernel_rfl) .nil ?_
                    refine Wc.ret ?_
                    obtain rfl := Option.some.inj h
                    exact ⟨.inl rfl, by kernel_rfl, by kernel_rfl⟩
                  · refine Wc.condF h232 (by kernel_rfl) ?_
                    refine Wc.fix (st' := ⟨[(8, (.v (.int .i64 i214_.2), [])), (9, (.v (.int .i64 b219_), []))], [], []⟩) [] [8, 9] [] [] (by kernel_rfl) ?_
                    refine Wc.skip ?_
                    refine Wc.seq ?_
                    refine Wc.seq ?_
                    refine Wc.region [] [] [68] [] [] ⟨[(68, (.v (.bool (b219_ != i214_.2)), []))], [], []⟩ _ (by kernel_rfl) .nil ?_
                    rcases oif h with ⟨h233, h⟩ | ⟨h233, h⟩
                    · refine Wc.condT h233 (by kernel_rfl) ?_
                      refine Wc.seq ?_
                      refine Wc.region [] [] [2] [] [] ⟨[(2, (.v (.bool false), []))], [], []⟩ _ (by kernel_rfl) .nil ?_
                      refine Wc.ret ?_
                      obtain rfl := Option.some.inj h
                      exact ⟨.inl rfl, by kernel_rfl, by kernel_rfl⟩
                    · refine Wc.condF h233 (by kernel_rfl) ?_
                      refine Wc.fix (st' := ⟨[], [], []⟩) [] [] [] [] (by kernel_rfl) ?_
                      refine Wc.skip ?_
                      refine Wc.seq ?_
                      refine Wc.region [] [] [2] [] [] ⟨[(2, (.v (.bool true), []))], [], []⟩ _ (by kernel_rfl) .nil ?_
                      refine Wc.ret ?_
                      obtain rfl := Option.some.inj h
                      exact ⟨.inl rfl, by kernel_rfl, by kernel_rfl⟩
end Go.Proofs.Ytjgagbajgdmocaa

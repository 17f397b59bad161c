/- What the functions do, part 2. -/
import Derived.Test.YtgfpmdaihkdhkaaFna
set_option linter.unusedVariables false
set_option linter.unusedSimpArgs false
namespace Go.Proofs.Ytgfpmdaihkdhkaa
open Go.RowKit Go.Bv
/-- spec.DbOf -/
def pspec_DbOf (k : Nat) (t234_ : GStore) : Option GDb :=
  (pspec_l15DbOfRaw k t234_).bind fun j235_ =>
  (pspec_l34Db k j235_).bind fun j236_ =>
  some j236_
theorem cspec_DbOf {k : Nat} {t234_ : GStore} {r : GDb} (h : pspec_DbOf k t234_ = some r) : FnO Try.prog 40 [.v (.agg [.sl (List.map GKept.c t234_.gList), .sl (List.map cS t234_.gOpen), .int .i64 t234_.gNow]) []] (.v (.agg [.sl (List.map GClause.c r.gClauses), .sl (List.map cS r.gOpen)]) [(0, .app 66), (1, .app 9)]) [] := by
  refine FnO.of Try.func40 (rfl : Try.f40.body = some _) (Nat.le_of_ble_eq_true (by kernel_rfl)) (Nat.le_of_ble_eq_true (by kernel_rfl)) ?_
  intro w0 X0 Fin pv0 pb
  unfold pspec_DbOf at h
  refine Wc.seq ?_
  refine Wc.region [] [] [1, 2] [1, 2] [] ⟨[(1, (.ptr 1 0, [])), (2, (.ptr 2 0, []))], [(1, .cells [.sl (List.map GKept.c t234_.gList), .sl (List.map cS t234_.gOpen), .int .i64 t234_.gNow] []), (2, .cells [.sl (List.map GClause.c []), .sl (List.map cS [])] [(0, .app 66), (1, .app 9)])], []⟩ _ (by kernel_rfl) .nil ?_
  refine Wc.seq ?_
  obtain ⟨j235_, h216, h⟩ := obind h
  refine Wc.region [{}, { r := some (.v (.agg [.sl (List.map GClause.c j235_.gClauses), .sl (List.map cS j235_.gOpen)]) [(0, .app 66), (1, .app 9)]) }, {}, { tk := [5] }] [] [2, 3] [2, 3] [] ⟨[(2, (.ptr 2 0, [])), (3, (.ptr 3 0, []))], [(2, .cells [.sl (List.map GClause.c []), .sl (List.map cS [])] [(0, .app 66), (1, .app 9)]), (3, .cells [.sl (List.map GClause.c j235_.gClauses), .sl (List.map cS j235_.gOpen)] [(0, .app 66), (1, .app 9)])], []⟩ _ (by kernel_rfl) (.cons (cspec_l15DbOfRaw h216) .nil) ?_
  refine Wc.seq ?_
  obtain ⟨j236_, h217, h⟩ := obind h
  refine Wc.region [{}, { r := some (.v (.agg [.sl (List.map GClause.c j236_.gClauses), .sl (List.map cS j236_.gOpen)]) [(0, .app 66), (1, .app 9)]) }, { tk := [7] }] [] [2] [2] [] ⟨[(2, (.ptr 2 0, []))], [(2, .cells [.sl (List.map GClause.c j236_.gClauses), .sl (List.map cS j236_.gOpen)] [(0, .app 66), (1, .app 9)])], []⟩ _ (by kernel_rfl) (.cons (cspec_l34Db h217) .nil) ?_
  refine Wc.ret ?_
  obtain rfl := Option.some.inj h
  exact ⟨.inl rfl, by kernel_rfl, by kernel_rfl⟩

def plaws_toStringS_L1 (k : Nat) (g237_ : List ByteArray) : Nat → (List ByteArray) → Int → Option (Out (List ByteArray) (List ByteArray))
  | 0, _, _ => none
  | m + 1, g238_, b239_ =>
    if (decide (b239_ < (g237_.length : Int))) = true then
      (at' g237_ b239_).bind fun i241_ =>
      (at' g238_ b239_).bind fun i242_ =>
      plaws_toStringS_L1 k g237_ m (g238_.set ((b239_).toNat) i241_) (wr.i64 (b239_ + 1))
    else
      some (.done g238_)
/-- laws.toStringS -/
def plaws_toStringS (k : Nat) (g237_ : List ByteArray) : Option (List ByteArray) :=
  if 0 ≤ (g237_.length : Int) ∧ (g237_.length : Int) ≤ 1073741824 then
    (plaws_toStringS_L1 k g237_ k (List.replicate ((g237_.length : Int)).toNat (bs [])) 0).bind fun out1 => match out1 with
    | .ret r => some r
    | .done g240_ =>
      some g240_
  else none
theorem claws_toStringS {k : Nat} {g237_ : List ByteArray} {r : (List ByteArray)} (h : plaws_toStringS k g237_ = some r) : FnO Try.prog 53 [.v (.sl (List.map cS g237_)) []] (.v (.sl (List.map cS r)) []) [] := by
  refine FnO.of Try.func53 (rfl : Try.f53.body = some _) (Nat.le_of_ble_eq_true (by kernel_rfl)) (Nat.le_of_ble_eq_true (by kernel_rfl)) ?_
  intro w0 X0 Fin pv0 pb
  unfold plaws_toStringS at h
  refine Wc.seq ?_
  refine Wc.region [] [] [0] [] [] ⟨[(0, (.v (.sl (List.map cS g237_)), []))], [], []⟩ _ (by kernel_rfl) .nil ?_
  refine Wc.seq ?_
  obtain ⟨h218, h⟩ := oguard h
  refine Wc.region [{}, { v := some (.int .i64 (g237_.length : Int)) }, { c := some (List.map cS (List.replicate ((g237_.length : Int)).toNat (bs []))) }, { tk := [7] }] [] [0, 3] [] [] ⟨[(0, (.v (.sl (List.map cS g237_)), [])), (3, (.v (.slx), [(0, .ex 9 true (List.map cS (List.replicate ((g237_.length : Int)).toNat (bs []))))]))], [], []⟩ _ (by kernel_rfl) (.cons (len_obl cS g237_) (.cons (rep_re (c := cS) (z := (bs [])) rfl ((g237_.length : Int)).toNat) (.cons (ms_obl h218) .nil))) ?_
  refine Wc.seq ?_
  refine Wc.seq ?_
  refine Wc.region [] [] [0, 3, 4] [] [] ⟨[(0, (.v (.sl (List.map cS g237_)), [])), (3, (.v (.slx), [(0, .ex 9 true (List.map cS (List.replicate ((g237_.length : Int)).toNat (bs []))))])), (4, (.v (.int .i64 0), []))], [], []⟩ _ (by kernel_rfl) .nil ?_
  obtain ⟨out1, h219, h⟩ := obind h
  refine Wc.lastJ (fun st => ∃ (g240_ : List ByteArray), out1 = .done g240_ ∧ st = ⟨[(3, (.v (.slx), [(0, .ex 9 true (List.map cS g240_))]))], [], []⟩) ?_ ?_
  · refine Wc.block ?_
    refine Wc.loop (fun m st => ∃ (g238_ : List ByteArray) (b239_ : Int), st = ⟨[(0, (.v (.sl (List.map cS g237_)), [])), (3, (.v (.slx), [(0, .ex 9 true (List.map cS g238_))])), (4, (.v (.int .i64 b239_), []))], [], []⟩ ∧ plaws_toStringS_L1 k g237_ m g238_ b239_ = some out1) ?_ k ⟨_, _, rfl, h219⟩
    rintro m st ⟨g238_, b239_, rfl, h219⟩
    cases m with
    | zero => exact (onone h219).elim
    | succ m =>
      refine Wc.seq ?_
      refine Wc.seq ?_
      refine Wc.region [{}, {}, { v := some (.int .i64 (g237_.length : Int)) }] [] [0, 3, 4, 11] [] [] ⟨[(0, (.v (.sl (List.map cS g237_)), [])), (3, (.v (.slx), [(0, .ex 9 true (List.map cS g238_))])), (4, (.v (.int .i64 b239_), [])), (11, (.v (.bool (decide (b239_ < (g237_.length : Int)))), []))], [], []⟩ _ (by kernel_rfl) (.cons (len_obl cS g237_) .nil) ?_
      rcases oif h219 with ⟨h220, h219⟩ | ⟨h220, h219⟩
      · refine Wc.condT h220 (by kernel_rfl) ?_
        refine Wc.fix (st' := ⟨[(0, (.v (.sl (List.map cS g237_)), [])), (3, (.v (.slx), [(0, .ex 9 true (List.map cS g238_))])), (4, (.v (.int .i64 b239_), []))], [], []⟩) [] [0, 3, 4] [] [] (by kernel_rfl) ?_
        refine Wc.skip ?_
        refine Wc.seq ?_
        refine Wc.block ?_
        obtain ⟨i241_, h221, h219⟩ := obind h219
        obtain ⟨i242_, h222, h219⟩ := obind h219
        refine Wc.region [{}, {}, {}, {}, { v := some (.vptr [.str i241_]) }, {}, {}, { c := some (List.map cS (g238_.set ((b239_).toNat) i241_)) }] [] [0, 3, 4] [] [] ⟨[(0, (.v (.sl (List.map cS g237_)), [])), (3, (.v (.slx), [(0, .ex 9 true (List.map cS (g238_.set ((b239_).toNat) i241_)))])), (4, (.v (.int .i64 b239_), []))], [], []⟩ _ (by kernel_rfl) (.cons (at_obl (c := cS) rfl cS_len h221) (.cons (len_ok 1 [.str i241_]) (.cons (ix_obl (c := cS) cS_len h222) (.cons (mod_obl (off := 0) (new := [.str i241_]) (c := cS) rfl rfl (at'_spec h222).2 rfl) (.cons (st_obl (sz := 1) (off := 0) (s := 1) (c := cS) rfl (at'_spec h222).2 rfl (Nat.le_of_ble_eq_true rfl)) .nil))))) ?_
        refine Wc.region [] [] [0, 3, 4] [] [] ⟨[(0, (.v (.sl (List.map cS g237_)), [])), (3, (.v (.slx), [(0, .ex 9 true (List.map cS (g238_.set ((b239_).toNat) i241_)))])), (4, (.v (.int .i64 (wr.i64 (b239_ + 1))), []))], [], []⟩ _ (by kernel_rfl) .nil ?_
        exact ⟨_, Nat.lt_succ_self _, _, _, rfl, h219⟩
      · refine Wc.condF h220 (by kernel_rfl) ?_
        refine Wc.fix (st' := ⟨[(3, (.v (.slx), [(0, .ex 9 true (List.map cS g238_))]))], [], []⟩) [] [3] [] [] (by kernel_rfl) ?_
        refine Wc.exit ?_
        obtain rfl := Option.some.inj h219
        exact ⟨_, rfl, rfl⟩
  · rintro st ⟨g240_, rfl, rfl⟩
    refine Wc.seq ?_
    refine Wc.region [{ tk := [3] }, { tk := [21] }] [] [2] [] [] ⟨[(2, (.v (.slx), [(0, .ex 9 true (List.map cS g240_))]))], [], []⟩ _ (by kernel_rfl) .nil ?_
    refine Wc.fix (st' := ⟨[(2, (.v (.sl (List.map cS g240_)), []))], [], []⟩) [.sh (.t 2 0)] [2] [] [] (by kernel_rfl) ?_
    refine Wc.ret ?_
    obtain rfl := Option.some.inj h
    exact ⟨.inl rfl, by kernel_rfl, by kernel_rfl⟩

def plaws_toTermS_L1 (k : Nat) (rlaws_toTerm : GTerm → Option GTerm) (rlaws_toTermS : (List GTerm) → Option (List GTerm)) (a245_ : List GTerm) : Nat → (List GTerm) → Int → Option (Out (List GTerm) (List GTerm))
  | 0, _, _ => none
  | m + 1, a246_, b247_ =>
    if (decide (b247_ < (a245_.length : Int))) = true then
      (at' a245_ b247_).bind fun c249_ =>
      (rlaws_toTerm c249_).bind fun c250_ =>
      (at' a246_ b247_).bind fun c251_ =>
      plaws_toTermS_L1 k rlaws_toTerm rlaws_toTermS a245_ m (a246_.set ((b247_).toNat) c250_) (wr.i64 (b247_ + 1))
    else
      some (.done a246_)
mutual
/-- laws.toTerm -/
def plaws_toTerm : Nat → GTerm → Option GTerm
  | 0, _ => none
  | k + 1, c243_ =>
    (plaws_toTermS k c243_.gKids).bind fun u244_ =>
    some (GTerm.mk c243_.gKind c243_.gName c243_.gNum u244_)
/-- laws.toTermS -/
def plaws_toTermS : Nat → (List GTerm) → Option (List GTerm)
  | 0, _ => none
  | k + 1, a245_ =>
    if 0 ≤ (a245_.length : Int) ∧ (a245_.length : Int) ≤ 1073741824 then
      (plaws_toTermS_L1 k (plaws_toTerm k) (plaws_toTermS k) a245_ k (List.replicate ((a245_.length : Int)).toNat (GTerm.mk 0 (bs []) 0 [])) 0).bind fun out1 => match out1 with
      | .ret r => some r
      | .done a248_ =>
        some a248_
    else none
end
theorem all_plaws_toTerm : ∀ k : Nat, (∀ {c243_ : GTerm} {r : GTerm}, plaws_toTerm k c243_ = some r → FnO Try.prog 36 [.v (.agg [.int .i64 c243_.gKind, .str c243_.gName, .int .i64 c243_.gNum, .sl (List.map GTerm.c c243_.gKids)]) []] (.v (.agg [.int .i64 r.gKind, .str r.gName, .int .i64 r.gNum, .sl (List.map GTerm.c r.gKids)]) []) []) ∧
    (∀ {a245_ : List GTerm} {r : (List GTerm)}, plaws_toTermS k a245_ = some r → FnO Try.prog 90 [.v (.sl (List.map GTerm.c a245_)) []] (.v (.sl (List.map GTerm.c r)) []) []) := by
  intro k
  induction k with
  | zero =>
    refine ⟨?_, ?_⟩
    · intro c243_ r h
      exact (onone (by rw [plaws_toTerm] at h; exact h)).elim
    · intro a245_ r h
      exact (onone (by rw [plaws_toTermS] at h; exact h)).elim
  | succ k ih =>
    obtain ⟨ih_plaws_toTerm, ih_plaws_toTermS⟩ := ih
    refine ⟨?_, ?_⟩
    · intro c243_ r h
      rw [plaws_toTerm] at h
      refine FnO.of Try.func36 (rfl : Try.f36.body = some _) (Nat.le_of_ble_eq_true (by kernel_rfl)) (Nat.le_of_ble_eq_true (by kernel_rfl)) ?_
      intro w0 X0 Fin pv0 pb
      refine Wc.seq ?_
      refine Wc.region [] [] [1, 2] [1, 2] [] ⟨[(1, (.ptr 1 0, [])), (2, (.ptr 2 0, []))], [(1, .cells [.int .i64 c243_.gKind, .str c243_.gName, .int .i64 c243_.gNum, .sl (List.map GTerm.c c243_.gKids)] []), (2, .cells [.int .i64 0, .str (bs []), .int .i64 0, .sl (List.map GTerm.c [])] [(3, .app 42)])], []⟩ _ (by kernel_rfl) .nil ?_
      refine Wc.seq ?_
      refine Wc.region [] [] [1, 2, 3] [1, 2, 3] [] ⟨[(1, (.ptr 1 0, [])), (2, (.ptr 2 0, [])), (3, (.ptr 3 0, []))], [(1, .cells [.int .i64 c243_.gKind, .str c243_.gName, .int .i64 c243_.gNum, .sl (List.map GTerm.c c243_.gKids)] []), (2, .cells [.int .i64 0, .str (bs []), .int .i64 0, .sl (List.map GTerm.c [])] [(3, .app 42)]), (3, .cells [.int .i64 0, .str (bs []), .int .i64 0, .sl (List.map GTerm.c [])] [(3, .app 42)])], []⟩ _ (by kernel_rfl) .nil ?_
      refine Wc.seq ?_
      refine Wc.region [] [] [1, 2, 3] [1, 2, 3] [] ⟨[(1, (.ptr 1 0, [])), (2, (.ptr 2 0, [])), (3, (.ptr 3 0, []))], [(1, .cells [.int .i64 c243_.gKind, .str c243_.gName, .int .i64 c243_.gNum, .sl (List.map GTerm.c c243_.gKids)] []), (2, .cells [.int .i64 0, .str (bs []), .int .i64 0, .sl (List.map GTerm.c [])] [(3, .app 42)]), (3, .cells [.int .i64 c243_.gKind, .str (bs []), .int .i64 0, .sl (List.map GTerm.c [])] [(3, .app 42)])], []⟩ _ (by kernel_rfl) .nil ?_
      refine Wc.seq ?_
      refine Wc.region [] [] [1, 2, 3] [1, 2, 3] [] ⟨[(1, (.ptr 1 0, [])), (2, (.ptr 2 0, [])), (3, (.ptr 3 0, []))], [(1, .cells [.int .i64 c243_.gKind, .str c243_.gName, .int .i64 c243_.gNum, .sl (List.map GTerm.c c243_.gKids)] []), (2, .cells [.int .i64 0, .str (bs []), .int .i64 0, .sl (List.map GTerm.c [])] [(3, .app 42)]), (3, .cells [.int .i64 c243_.gKind, .str c243_.gName, .int .i64 0, .sl (List.map GTerm.c [])] [(3, .app 42)])], []⟩ _ (by kernel_rfl) .nil ?_
      refine Wc.seq ?_
      refine Wc.region [] [] [1, 2, 3] [1, 2, 3] [] ⟨[(1, (.ptr 1 0, [])), (2, (.ptr 2 0, [])), (3, (.ptr 3 0, []))], [(1, .cells [.int .i64 c243_.gKind, .str c243_.gName, .int .i64 c243_.gNum, .sl (List.map GTerm.c c243_.gKids)] []), (2, .cells [.int .i64 0, .str (bs []), .int .i64 0, .sl (List.map GTerm.c [])] [(3, .app 42)]), (3, .cells [.int .i64 c243_.gKind, .str c243_.gName, .int .i64 c243_.gNum, .sl (List.map GTerm.c [])] [(3, .app 42)])], []⟩ _ (by kernel_rfl) .nil ?_
      refine Wc.seq ?_
      obtain ⟨u244_, h223, h⟩ := obind h
      refine Wc.region [{}, {}, { r := some (.v (.sl (List.map GTerm.c u244_)) []) }] [] [2, 3] [2, 3] [] ⟨[(2, (.ptr 2 0, [])), (3, (.ptr 3 0, []))], [(2, .cells [.int .i64 0, .str (bs []), .int .i64 0, .sl (List.map GTerm.c [])] [(3, .app 42)]), (3, .cells [.int .i64 c243_.gKind, .str c243_.gName, .int .i64 c243_.gNum, .sl (List.map GTerm.c u244_)] [])], []⟩ _ (by kernel_rfl) (.cons (ih_plaws_toTermS h223) .nil) ?_
      refine Wc.seq ?_
      refine Wc.region [] [] [2] [2] [] ⟨[(2, (.ptr 2 0, []))], [(2, .cells [.int .i64 c243_.gKind, .str c243_.gName, .int .i64 c243_.gNum, .sl (List.map GTerm.c u244_)] [])], []⟩ _ (by kernel_rfl) .nil ?_
      refine Wc.ret ?_
      obtain rfl := Option.some.inj h
      exact ⟨.inl rfl, by kernel_rfl, by kernel_rfl⟩
    · intro a245_ r h
      rw [plaws_toTermS] at h
      refine FnO.of Try.func90 (rfl : Try.f90.body = some _) (Nat.le_of_ble_eq_true (by kernel_rfl)) (Nat.le_of_ble_eq_true (by kernel_rfl)) ?_
      intro w0 X0 Fin pv0 pb
      refine Wc.seq ?_
      refine Wc.region [] [] [0] [] [] ⟨[(0, (.v (.sl (List.map GTerm.c a245_)), []))], [], []⟩ _ (by kernel_rfl) .nil ?_
      refine Wc.seq ?_
      obtain ⟨h224, h⟩ := oguard h
      refine Wc.region [{}, { v := some (.int .i64 (a245_.length : Int)) }, { c := some (List.map GTerm.c (List.replicate ((a245_.length : Int)).toNat (GTerm.mk 0 (bs []) 0 []))) }, { tk := [7], fx := [.ag (.t 7 0)] }] [] [0, 3] [] [] ⟨[(0, (.v (.sl (List.map GTerm.c a245_)), [])), (3, (.v (.slx), [(0, .ex 42 false (List.map GTerm.c (List.replicate ((a245_.length : Int)).toNat (GTerm.mk 0 (bs []) 0 []))))]))], [], []⟩ _ (by kernel_rfl) (.cons (len_obl GTerm.c a245_) (.cons (rep_re (c := GTerm.c) (z := (GTerm.mk 0 (bs []) 0 [])) (GTerm.c_eq (GTerm.mk 0 (bs []) 0 [])) ((a245_.length : Int)).toNat) (.cons (ms_obl h224) .nil))) ?_
      refine Wc.seq ?_
      refine Wc.seq ?_
      refine Wc.region [] [] [0, 3, 4] [] [] ⟨[(0, (.v (.sl (List.map GTerm.c a245_)), [])), (3, (.v (.slx), [(0, .ex 42 false (List.map GTerm.c (List.replicate ((a245_.length : Int)).toNat (GTerm.mk 0 (bs []) 0 []))))])), (4, (.v (.int .i64 0), []))], [], []⟩ _ (by kernel_rfl) .nil ?_
      obtain ⟨out1, h225, h⟩ := obind h
      refine Wc.lastJ (fun st => ∃ (a248_ : List GTerm), out1 = .done a248_ ∧ st = ⟨[(3, (.v (.slx), [(0, .ex 42 false (List.map GTerm.c a248_))]))], [], []⟩) ?_ ?_
      · refine Wc.block ?_
        refine Wc.loop (fun m st => ∃ (a246_ : List GTerm) (b247_ : Int), st = ⟨[(0, (.v (.sl (List.map GTerm.c a245_)), [])), (3, (.v (.slx), [(0, .ex 42 false (List.map GTerm.c a246_))])), (4, (.v (.int .i64 b247_), []))], [], []⟩ ∧ plaws_toTermS_L1 k (plaws_toTerm k) (plaws_toTermS k) a245_ m a246_ b247_ = some out1) ?_ k ⟨_, _, rfl, h225⟩
        rintro m st ⟨a246_, b247_, rfl, h225⟩
        cases m with
        | zero => exact (onone h225).elim
        | succ m =>
          refine Wc.seq ?_
          refine Wc.seq ?_
          refine Wc.region [{}, {}, { v := some (.int .i64 (a245_.length : Int)) }] [] [0, 3, 4, 11] [] [] ⟨[(0, (.v (.sl (List.map GTerm.c a245_)), [])), (3, (.v (.slx), [(0, .ex 42 false (List.map GTerm.c a246_))])), (4, (.v (.int .i64 b247_), [])), (11, (.v (.bool (decide (b247_ < (a245_.length : Int)))), []))], [], []⟩ _ (by kernel_rfl) (.cons (len_obl GTerm.c a245_) .nil) ?_
          rcases oif h225 with ⟨h226, h225⟩ | ⟨h226, h225⟩
          · refine Wc.condT h226 (by kernel_rfl) ?_
            refine Wc.fix (st' := ⟨[(0, (.v (.sl (List.map GTerm.c a245_)), [])), (3, (.v (.slx), [(0, .ex 42 false (List.map GTerm.c a246_))])), (4, (.v (.int .i64 b247_), []))], [], []⟩) [] [0, 3, 4] [] [] (by kernel_rfl) ?_
            refine Wc.skip ?_
            refine Wc.seq ?_
            refine Wc.block ?_
            obtain ⟨c249_, h227, h225⟩ := obind h225
            obtain ⟨c250_, h228, h225⟩ := obind h225
            obtain ⟨c251_, h229, h225⟩ := obind h225
            refine Wc.region [{}, {}, {}, {}, { v := some (.vptr [.int .i64 c249_.gKind, .str c249_.gName, .int .i64 c249_.gNum, .sl (List.map GTerm.c c249_.gKids)]) }, {}, { r := some (.v (.agg [.int .i64 c250_.gKind, .str c250_.gName, .int .i64 c250_.gNum, .sl (List.map GTerm.c c250_.gKids)]) []) }, {}, { c := some (List.map GTerm.c (a246_.set ((b247_).toNat) c250_)) }] [] [0, 3, 4] [] [] ⟨[(0, (.v (.sl (List.map GTerm.c a245_)), [])), (3, (.v (.slx), [(0, .ex 42 false (List.map GTerm.c (a246_.set ((b247_).toNat) c250_)))])), (4, (.v (.int .i64 b247_), []))], [], []⟩ _ (by kernel_rfl) (.cons (at_obl (c := GTerm.c) (GTerm.c_eq c249_) GTerm.c_len h227) (.cons (len_ok 4 [.int .i64 c249_.gKind, .str c249_.gName, .int .i64 c249_.gNum, .sl (List.map GTerm.c c249_.gKids)]) (.cons (ih_plaws_toTerm h228) (.cons (ix_obl (c := GTerm.c) GTerm.c_len h229) (.cons (mod_obl (off := 0) (new := [.int .i64 c250_.gKind, .str c250_.gName, .int .i64 c250_.gNum, .sl (List.map GTerm.c c250_.gKids)]) (c := GTerm.c) (GTerm.c_eq c251_) (GTerm.c_eq c250_) (at'_spec h229).2 rfl) (.cons (st_obl (sz := 4) (off := 0) (s := 4) (c := GTerm.c) (GTerm.c_eq c251_) (at'_spec h229).2 rfl (Nat.le_of_ble_eq_true rfl)) .nil)))))) ?_
            refine Wc.region [] [] [0, 3, 4] [] [] ⟨[(0, (.v (.sl (List.map GTerm.c a245_)), [])), (3, (.v (.slx), [(0, .ex 42 false (List.map GTerm.c (a246_.set ((b247_).toNat) c250_)))])), (4, (.v (.int .i64 (wr.i64 (b247_ + 1))), []))], [], []⟩ _ (by kernel_rfl) .nil ?_
            exact ⟨_, Nat.lt_succ_self _, _, _, rfl, h225⟩
          · refine Wc.condF h226 (by kernel_rfl) ?_
            refine Wc.fix (st' := ⟨[(3, (.v (.slx), [(0, .ex 42 false (List.map GTerm.c a246_))]))], [], []⟩) [] [3] [] [] (by kernel_rfl) ?_
            refine Wc.exit ?_
            obtain rfl := Option.some.inj h225
            exact ⟨_, rfl, rfl⟩
      · rintro st ⟨a248_, rfl, rfl⟩
        refine Wc.seq ?_
        refine Wc.region [{ tk := [3] }, { tk := [22] }] [] [2] [] [] ⟨[(2, (.v (.slx), [(0, .ex 42 false (List.map GTerm.c a248_))]))], [], []⟩ _ (by kernel_rfl) .nil ?_
        refine Wc.fix (st' := ⟨[(2, (.v (.sl (List.map GTerm.c a248_)), []))], [], []⟩) [.sh (.t 2 0)] [2] [] [] (by kernel_rfl) ?_
        refine Wc.ret ?_
        obtain rfl := Option.some.inj h
        exact ⟨.inl rfl, by kernel_rfl, by kernel_rfl⟩
theorem claws_toTerm {k : Nat} {c243_ : GTerm} {r : GTerm} (h : plaws_toTerm k c243_ = some r) : FnO Try.prog 36 [.v (.agg [.int .i64 c243_.gKind, .str c243_.gName, .int .i64 c243_.gNum, .sl (List.map GTerm.c c243_.gKids)]) []] (.v (.agg [.int .i64 r.gKind, .str r.gName, .int .i64 r.gNum, .sl (List.map GTerm.c r.gKids)]) []) [] := (all_plaws_toTerm k).1 h
theorem claws_toTermS {k : Nat} {a245_ : List GTerm} {r : (List GTerm)} (h : plaws_toTermS k a245_ = some r) : FnO Try.prog 90 [.v (.sl (List.map GTerm.c a245_)) []] (.v (.sl (List.map GTerm.c r)) []) [] := (all_plaws_toTerm k).2 h

/-- laws.toClause -/
def plaws_toClause (k : Nat) (e252_ : GClause) : Option GClause :=
  (plaws_toTerm k e252_.gHead).bind fun c253_ =>
  (plaws_toTerm k e252_.gBody).bind fun c254_ =>
  some (GClause.mk c253_ c254_ e252_.gFile)
theorem claws_toClause {k : Nat} {e252_ : GClause} {r : GClause} (h : plaws_toClause k e252_ = some r) : FnO Try.prog 27 [.v (.agg [.int .i64 e252_.gHead.gKind, .str e252_.gHead.gName, .int .i64 e252_.gHead.gNum, .sl (List.map GTerm.c e252_.gHead.gKids), .int .i64 e252_.gBody.gKind, .str e252_.gBody.gName, .int .i64 e252_.gBody.gNum, .sl (List.map GTerm.c e252_.gBody.gKids), .str e252_.gFile]) []] (.v (.agg [.int .i64 r.gHead.gKind, .str r.gHead.gName, .int .i64 r.gHead.gNum, .sl (List.map GTerm.c r.gHead.gKids), .int .i64 r.gBody.gKind, .str r.gBody.gName, .int .i64 r.gBody.gNum, .sl (List.map GTerm.c r.gBody.gKids), .str r.gFile]) []) [] := by
  refine FnO.of Try.func27 (rfl : Try.f27.body = some _) (Nat.le_of_ble_eq_true (by kernel_rfl)) (Nat.le_of_ble_eq_true (by kernel_rfl)) ?_
  intro w0 X0 Fin pv0 pb
  unfold plaws_toClause at h
  refine Wc.seq ?_
  refine Wc.region [] [] [1, 2] [1, 2] [] ⟨[(1, (.ptr 1 0, [])), (2, (.ptr 2 0, []))], [(1, .cells [.int .i64 e252_.gHead.gKind, .str e252_.gHead.gName, .int .i64 e252_.gHead.gNum, .sl (List.map GTerm.c e252_.gHead.gKids), .int .i64 e252_.gBody.gKind, .str e252_.gBody.gName, .int .i64 e252_.gBody.gNum, .sl (List.map GTerm.c e252_.gBody.gKids), .str e252_.gFile] []), (2, .cells [.int .i64 0, .str (bs []), .int .i64 0, .sl (List.map GTerm.c []), .int .i64 0, .str (bs []), .int .i64 0, .sl (List.map GTerm.c []), .str (bs [])] [(3, .app 42), (7, .app 42)])], []⟩ _ (by kernel_rfl) .nil ?_
  refine Wc.seq ?_
  refine Wc.region [] [] [1, 2, 3] [1, 2, 3] [] ⟨[(1, (.ptr 1 0, [])), (2, (.ptr 2 0, [])), (3, (.ptr 3 0, []))], [(1, .cells [.int .i64 e252_.gHead.gKind, .str e252_.gHead.gName, .int .i64 e252_.gHead.gNum, .sl (List.map GTerm.c e252_.gHead.gKids), .int .i64 e252_.gBody.gKind, .str e252_.gBody.gName, .int .i64 e252_.gBody.gNum, .sl (List.map GTerm.c e252_.gBody.gKids), .str e252_.gFile] []), (2, .cells [.int .i64 0, .str (bs []), .int .i64 0, .sl (List.map GTerm.c []), .int .i64 0, .str (bs []), .int .i64 0, .sl (List.map GTerm.c []), .str (bs [])] [(3, .app 42), (7, .app 42)]), (3, .cells [.int .i64 0, .str (bs []), .int .i64 0, .sl (List.map GTerm.c []), .int .i64 0, .str (bs []), .int .i64 0, .sl (List.map GTerm.c []), .str (bs [])] [(3, .app 42), (7, .app 42)])], []⟩ _ (by kernel_rfl) .nil ?_
  refine Wc.seq ?_
  obtain ⟨c253_, h230, h⟩ := obind h
  refine Wc.region [{}, {}, { r := some (.v (.agg [.int .i64 c253_.gKind, .str c253_.gName, .int .i64 c253_.gNum, .sl (List.map GTerm.c c253_.gKids)]) []) }] [] [1, 2, 3] [1, 2, 3] [] ⟨[(1, (.ptr 1 0, [])), (2, (.ptr 2 0, [])), (3, (.ptr 3 0, []))], [(1, .cells [.int .i64 e252_.gHead.gKind, .str e252_.gHead.gName, .int .i64 e252_.gHead.gNum, .sl (List.map GTerm.c e252_.gHead.gKids), .int .i64 e252_.gBody.gKind, .str e252_.gBody.gName, .int .i64 e252_.gBody.gNum, .sl (List.map GTerm.c e252_.gBody.gKids), .str e252_.gFile] []), (2, .cells [.int .i64 0, .str (bs []), .int .i64 0, .sl (List.map GTerm.c []), .int .i64 0, .str (bs []), .int .i64 0, .sl (List.map GTerm.c []), .str (bs [])] [(3, .app 42), (7, .app 42)]), (3, .cells [.int .i64 c253_.gKind, .str c253_.gName, .int .i64 c253_.gNum, .sl (List.map GTerm.c c253_.gKids), .int .i64 0, .str (bs []), .int .i64 0, .sl (List.map GTerm.c []), .str (bs [])] [(7, .app 42)])], []⟩ _ (by kernel_rfl) (.cons (claws_toTerm h230) .nil) ?_
  refine Wc.seq ?_
  obtain ⟨c254_, h231, h⟩ := obind h
  refine Wc.region [{}, {}, { r := some (.v (.agg [.int .i64 c254_.gKind, .str c254_.gName, .int .i64 c254_.gNum, .sl (List.map GTerm.c c254_.gKids)]) []) }] [] [1, 2, 3] [1, 2, 3] [] ⟨[(1, (.ptr 1 0, [])), (2, (.ptr 2 0, [])), (3, (.ptr 3 0, []))], [(1, .cells [.int .i64 e252_.gHead.gKind, .str e252_.gHead.gName, .int .i64 e252_.gHead.gNum, .sl (List.map GTerm.c e252_.gHead.gKids), .int .i64 e252_.gBody.gKind, .str e252_.gBody.gName, .int .i64 e252_.gBody.gNum, .sl (List.map GTerm.c e252_.gBody.gKids), .str e252_.gFile] []), (2, .cells [.int .i64 0, .str (bs []), .int .i64 0, .sl (List.map GTerm.c []), .int .i64 0, .str (bs []), .int .i64 0, .sl (List.map GTerm.c []), .str (bs [])] [(3, .app 42), (7, .app 42)]), (3, .cells [.int .i64 c253_.gKind, .str c253_.gName, .int .i64 c253_.gNum, .sl (List.map GTerm.c c253_.gKids), .int .i64 c254_.gKind, .str c254_.gName, .int .i64 c254_.gNum, .sl (List.map GTerm.c c254_.gKids), .str (bs [])] [])], []⟩ _ (by kernel_rfl) (.cons (claws_toTerm h231) .nil) ?_
  refine Wc.seq ?_
  refine Wc.region [] [] [2, 3] [2, 3] [] ⟨[(2, (.ptr 2 0, [])), (3, (.ptr 3 0, []))], [(2, .cells [.int .i64 0, .str (bs []), .int .i64 0, .sl (List.map GTerm.c []), .int .i64 0, .str (bs []), .int .i64 0, .sl (List.map GTerm.c []), .str (bs [])] [(3, .app 42), (7, .app 42)]), (3, .cells [.int .i64 c253_.gKind, .str c253_.gName, .int .i64 c253_.gNum, .sl (List.map GTerm.c c253_.gKids), .int .i64 c254_.gKind, .str c254_.gName, .int .i64 c254_.gNum, .sl (List.map GTerm.c c254_.gKids), .str e252_.gFile] [])], []⟩ _ (by kernel_rfl) .nil ?_
  refine Wc.seq ?_
  refine Wc.region [] [] [2] [2] [] ⟨[(2, (.ptr 2 0, []))], [(2, .cells [.int .i64 c253_.gKind, .str c253_.gName, .int .i64 c253_.gNum, .sl (List.map GTerm.c c253_.gKids), .int .i64 c254_.gKind, .str c254_.gName, .int .i64 c254_.gNum, .sl (List.map GTerm.c c254_.gKids), .str e252_.gFile] [])], []⟩ _ (by kernel_rfl) .nil ?_
  refine Wc.ret ?_
  obtain rfl := Option.some.inj h
  exact ⟨.inl rfl, by kernel_rfl, by kernel_rfl⟩

/-- laws.toIns -/
def plaws_toIns (k : Nat) (o255_ : GIns) : Option GIns :=
  some o255_
theorem claws_toIns {k : Nat} {o255_ : GIns} {r : GIns} (h : plaws_toIns k o255_ = some r) : FnO Try.prog 163 [.v (.agg [.int .i64 o255_.gOp, .str o255_.gName, .int .i64 o255_.gNum, .int .i64 o255_.gMany]) []] (.v (.agg [.int .i64 r.gOp, .str r.gName, .int .i64 r.gNum, .int .i64 r.gMany]) []) [] := by
  refine FnO.of Try.func163 (rfl : Try.f163.body = some _) (Nat.le_of_ble_eq_true (by kernel_rfl)) (Nat.le_of_ble_eq_true (by kernel_rfl)) ?_
  intro w0 X0 Fin pv0 pb
  unfold plaws_toIns at h
  refine Wc.seq ?_
  refine Wc.region [] [] [1, 2] [1, 2] [] ⟨[(1, (.ptr 1 0, [])), (2, (.ptr 2 0, []))], [(1, .cells [.int .i64 o255_.gOp, .str o255_.gName, .int .i64 o255_.gNum, .int .i64 o255_.gMany] []), (2, .cells [.int .i64 0, .str (bs []), .int .i64 0, .int .i64 0] [])], []⟩ _ (by kernel_rfl) .nil ?_
  refine Wc.seq ?_
  refine Wc.region [] [] [1, 2, 3] [1, 2, 3] [] ⟨[(1, (.ptr 1 0, [])), (2, (.ptr 2 0, [])), (3, (.ptr 3 0, []))], [(1, .cells [.int .i64 o255_.gOp, .str o255_.gName, .int .i64 o255_.gNum, .int .i64 o255_.gMany] []), (2, .cells [.int .i64 0, .str (bs []), .int .i64 0, .int .i64 0] []), (3, .cells [.int .i64 0, .str (bs []), .int .i64 0, .int .i64 0] [])], []⟩ _ (by kernel_rfl) .nil ?_
  refine Wc.seq ?_
  refine Wc.region [] [] [1, 2, 3] [1, 2, 3] [] ⟨[(1, (.ptr 1 0, [])), (2, (.ptr 2 0, [])), (3, (.ptr 3 0, []))], [(1, .cells [.int .i64 o255_.gOp, .str o255_.gName, .int .i64 o255_.gNum, .int .i64 o255_.gMany] []), (2, .cells [.int .i64 0, .str (bs []), .int .i64 0, .int .i64 0] []), (3, .cells [.int .i64 o255_.gOp, .str (bs []), .int .i64 0, .int .i64 0] [])], []⟩ _ (by kernel_rfl) .nil ?_
  refine Wc.seq ?_
  refine Wc.region [] [] [1, 2, 3] [1, 2, 3] [] ⟨[(1, (.ptr 1 0, [])), (2, (.ptr 2 0, [])), (3, (.ptr 3 0, []))], [(1, .cells [.int .i64 o255_.gOp, .str o255_.gName, .int .i64 o255_.gNum, .int .i64 o255_.gMany] []), (2, .cells [.int .i64 0, .str (bs []), .int .i64 0, .int .i64 0] []), (3, .cells [.int .i64 o255_.gOp, .str o255_.gName, .int .i64 0, .int .i64 0] [])], []⟩ _ (by kernel_rfl) .nil ?_
  refine Wc.seq ?_
  refine Wc.region [] [] [1, 2, 3] [1, 2, 3] [] ⟨[(1, (.ptr 1 0, [])), (2, (.ptr 2 0, [])), (3, (.ptr 3 0, []))], [(1, .cells [.int .i64 o255_.gOp, .str o255_.gName, .int .i64 o255_.gNum, .int .i64 o255_.gMany] []), (2, .cells [.int .i64 0, .str (bs []), .int .i64 0, .int .i64 0] []), (3, .cells [.int .i64 o255_.gOp, .str o255_.gName, .int .i64 o255_.gNum, .int .i64 0] [])], []⟩ _ (by kernel_rfl) .nil ?_
  refine Wc.seq ?_
  refine Wc.region [] [] [2, 3] [2, 3] [] ⟨[(2, (.ptr 2 0, [])), (3, (.ptr 3 0, []))], [(2, .cells [.int .i64 0, .str (bs []), .int .i64 0, .int .i64 0] []), (3, .cells [.int .i64 o255_.gOp, .str o255_.gName, .int .i64 o255_.gNum, .int .i64 o255_.gMany] [])], []⟩ _ (by kernel_rfl) .nil ?_
  refine Wc.seq ?_
  refine Wc.region [] [] [2] [2] [] ⟨[(2, (.ptr 2 0, []))], [(2, .cells [.int .i64 o255_.gOp, .str o255_.gName, .int .i64 o255_.gNum, .int .i64 o255_.gMany] [])], []⟩ _ (by kernel_rfl) .nil ?_
  refine Wc.ret ?_
  obtain rfl := Option.some.inj h
  exact ⟨.inl rfl, by kernel_rfl, by kernel_rfl⟩

def plaws_toInsS_L1 (k : Nat) (p256_ : List GIns) : Nat → (List GIns) → Int → Option (Out (List GIns) (List GIns))
  | 0, _, _ => none
  | m + 1, p257_, b258_ =>
    if (decide (b258_ < (p256_.length : Int))) = true then
      (at' p256_ b258_).bind fun o260_ =>
      (plaws_toIns k o260_).bind fun o261_ =>
      (at' p257_ b258_).bind fun o262_ =>
      plaws_toInsS_L1 k p256_ m (p257_.set ((b258_).toNat) o261_) (wr.i64 (b258_ + 1))
    else
      some (.done p257_)
/-- laws.toInsS -/
def plaws_toInsS (k : Nat) (p256_ : List GIns) : Option (List GIns) :=
  if 0 ≤ (p256_.length : Int) ∧ (p256_.length : Int) ≤ 1073741824 then
    (plaws_toInsS_L1 k p256_ k (List.replicate ((p256_.length : Int)).toNat (GIns.mk 0 (bs []) 0 0)) 0).bind fun out1 => match out1 with
    | .ret r => some r
    | .done p259_ =>
      some p259_
  else none
theorem claws_toInsS {k : Nat} {p256_ : List GIns} {r : (List GIns)} (h : plaws_toInsS k p256_ = some r) : FnO Try.prog 160 [.v (.sl (List.map GIns.c p256_)) []] (.v (.sl (List.map GIns.c r)) []) [] := by
  refine FnO.of Try.func160 (rfl : Try.f160.body = some _) (Nat.le_of_ble_eq_true (by kernel_rfl)) (Nat.le_of_ble_eq_true (by kernel_rfl)) ?_
  intro w0 X0 Fin pv0 pb
  unfold plaws_toInsS at h
  refine Wc.seq ?_
  refine Wc.region [] [] [0] [] [] ⟨[(0, (.v (.sl (List.map GIns.c p256_)), []))], [], []⟩ _ (by kernel_rfl) .nil ?_
  refine Wc.seq ?_
  obtain ⟨h232, h⟩ := oguard h
  refine Wc.region [{}, { v := some (.int .i64 (p256_.length : Int)) }, { c := some (List.map GIns.c (List.replicate ((p256_.length : Int)).toNat (GIns.mk 0 (bs []) 0 0))) }, { tk := [7] }] [] [0, 3] [] [] ⟨[(0, (.v (.sl (List.map GIns.c p256_)), [])), (3, (.v (.slx), [(0, .ex 158 true (List.map GIns.c (List.replicate ((p256_.length : Int)).toNat (GIns.mk 0 (bs []) 0 0))))]))], [], []⟩ _ (by kernel_rfl) (.cons (len_obl GIns.c p256_) (.cons (rep_re (c := GIns.c) (z := (GIns.mk 0 (bs []) 0 0)) (GIns.c_eq (GIns.mk 0 (bs []) 0 0)) ((p256_.length : Int)).toNat) (.cons (ms_obl h232) .nil))) ?_
  refine Wc.seq ?_
  refine Wc.seq ?_
  refine Wc.region [] [] [0, 3, 4] [] [] ⟨[(0, (.v (.sl (List.map GIns.c p256_)), [])), (3, (.v (.slx), [(0, .ex 158 true (List.map GIns.c (List.replicate ((p256_.length : Int)).toNat (GIns.mk 0 (bs []) 0 0))))])), (4, (.v (.int .i64 0), []))], [], []⟩ _ (by kernel_rfl) .nil ?_
  obtain ⟨out1, h233, h⟩ := obind h
  refine Wc.lastJ (fun st => ∃ (p259_ : List GIns), out1 = .done p259_ ∧ st = ⟨[(3, (.v (.slx), [(0, .ex 158 true (List.map GIns.c p259_))]))], [], []⟩) ?_ ?_
  · refine Wc.block ?_
    refine Wc.loop (fun m st => ∃ (p257_ : List GIns) (b258_ : Int), st = ⟨[(0, (.v (.sl (List.map GIns.c p256_)), [])), (3, (.v (.slx), [(0, .ex 158 true (List.map GIns.c p257_))])), (4, (.v (.int .i64 b258_), []))], [], []⟩ ∧ plaws_toInsS_L1 k p256_ m p257_ b258_ = some out1) ?_ k ⟨_, _, rfl, h233⟩
    rintro m st ⟨p257_, b258_, rfl, h233⟩
    cases m with
    | zero => exact (onone h233).elim
    | succ m =>
      refine Wc.seq ?_
      refine Wc.seq ?_
      refine Wc.region [{}, {}, { v := some (.int .i64 (p256_.length : Int)) }] [] [0, 3, 4, 11] [] [] ⟨[(0, (.v (.sl (List.map GIns.c p256_)), [])), (3, (.v (.slx), [(0, .ex 158 true (List.map GIns.c p257_))])), (4, (.v (.int .i64 b258_), [])), (11, (.v (.bool (decide (b258_ < (p256_.length : Int)))), []))], [], []⟩ _ (by kernel_rfl) (.cons (len_obl GIns.c p256_) .nil) ?_
      rcases oif h233 with ⟨h234, h233⟩ | ⟨h234, h233⟩
      · refine Wc.condT h234 (by kernel_rfl) ?_
        refine Wc.fix (st' := ⟨[(0, (.v (.sl (List.map GIns.c p256_)), [])), (3, (.v (.slx), [(0, .ex 158 true (List.map GIns.c p257_))])), (4, (.v (.int .i64 b258_), []))], [], []⟩) [] [0, 3, 4] [] [] (by kernel_rfl) ?_
        refine Wc.skip ?_
        refine Wc.seq ?_
        refine Wc.block ?_
        obtain ⟨o260_, h235, h233⟩ := obind h233
        obtain ⟨o261_, h236, h233⟩ := obind h233
        obtain ⟨o262_, h237, h233⟩ := obind h233
        refine Wc.region [{}, {}, {}, {}, { v := some (.vptr [.int .i64 o260_.gOp, .str o260_.gName, .int .i64 o260_.gNum, .int .i64 o260_.gMany]) }, {}, { r := some (.v (.agg [.int .i64 o261_.gOp, .str o261_.gName, .int .i64 o261_.gNum, .int .i64 o261_.gMany]) []) }, {}, { c := some (List.map GIns.c (p257_.set ((b258_).toNat) o261_)) }] [] [0, 3, 4] [] [] ⟨[(0, (.v (.sl (List.map GIns.c p256_)), [])), (3, (.v (.slx), [(0, .ex 158 true (List.map GIns.c (p257_.set ((b258_).toNat) o261_)))])), (4, (.v (.int .i64 b258_), []))], [], []⟩ _ (by kernel_rfl) (.cons (at_obl (c := GIns.c) (GIns.c_eq o260_) GIns.c_len h235) (.cons (len_ok 4 [.int .i64 o260_.gOp, .str o260_.gName, .int .i64 o260_.gNum, .int .i64 o260_.gMany]) (.cons (claws_toIns h236) (.cons (ix_obl (c := GIns.c) GIns.c_len h237) (.cons (mod_obl (off := 0) (new := [.int .i64 o261_.gOp, .str o261_.gName, .int .i64 o261_.gNum, .int .i64 o261_.gMany]) (c := GIns.c) (GIns.c_eq o262_) (GIns.c_eq o261_) (at'_spec h237).2 rfl) (.cons (st_obl (sz := 4) (off := 0) (s := 4) (c := GIns.c) (GIns.c_eq o262_) (at'_spec h237).2 rfl (Nat.le_of_ble_eq_true rfl)) .nil)))))) ?_
        refine Wc.region [] [] [0, 3, 4] [] [] ⟨[(0, (.v (.sl (List.map GIns.c p256_)), [])), (3, (.v (.slx), [(0, .ex 158 true (List.map GIns.c (p257_.set ((b258_).toNat) o261_)))])), (4, (.v (.int .i64 (wr.i64 (b258_ + 1))), []))], [], []⟩ _ (by kernel_rfl) .nil ?_
        exact ⟨_, Nat.lt_succ_self _, _, _, rfl, h233⟩
      · refine Wc.condF h234 (by kernel_rfl) ?_
        refine Wc.fix (st' := ⟨[(3, (.v (.slx), [(0, .ex 158 true (List.map GIns.c p257_))]))], [], []⟩) [] [3] [] [] (by kernel_rfl) ?_
        refine Wc.exit ?_
        obtain rfl := Option.some.inj h233
        exact ⟨_, rfl, rfl⟩
  · rintro st ⟨p259_, rfl, rfl⟩
    refine Wc.seq ?_
    refine Wc.region [{ tk := [3] }, { tk := [22] }] [] [2] [] [] ⟨[(2, (.v (.slx), [(0, .ex 158 true (List.map GIns.c p259_))]))], [], []⟩ _ (by kernel_rfl) .nil ?_
    refine Wc.fix (st' := ⟨[(2, (.v (.sl (List.map GIns.c p259_)), []))], [], []⟩) [.sh (.t 2 0)] [2] [] [] (by kernel_rfl) ?_
    refine Wc.ret ?_
    obtain rfl := Option.some.inj h
    exact ⟨.inl rfl, by kernel_rfl, by kernel_rfl⟩

/-- laws.toCode -/
def plaws_toCode (k : Nat) (q263_ : GCode) : Option GCode :=
  (plaws_toInsS k q263_.gHead).bind fun x264_ =>
  (plaws_toInsS k q263_.gBody).bind fun x265_ =>
  some (GCode.mk x264_ x265_ q263_.gVars)
theorem claws_toCode {k : Nat} {q263_ : GCode} {r : GCode} (h : plaws_toCode k q263_ = some r) : FnO Try.prog 152 [.v (.agg [.sl (List.map GIns.c q263_.gHead), .sl (List.map GIns.c q263_.gBody), .int .i64 q263_.gVars]) []] (.v (.agg [.sl (List.map GIns.c r.gHead), .sl (List.map GIns.c r.gBody), .int .i64 r.gVars]) []) [] := by
  refine FnO.of Try.func152 (rfl : Try.f152.body = some _) (Nat.le_of_ble_eq_true (by kernel_rfl)) (Nat.le_of_ble_eq_true (by kernel_rfl)) ?_
  intro w0 X0 Fin pv0 pb
  unfold plaws_toCode at h
  refine Wc.seq ?_
  refine Wc.region [] [] [1, 2] [1, 2] [] ⟨[(1, (.ptr 1 0, [])), (2, (.ptr 2 0, []))], [(1, .cells [.sl (List.map GIns.c q263_.gHead), .sl (List.map GIns.c q263_.gBody), .int .i64 q263_.gVars] []), (2, .cells [.sl (List.map GIns.c []), .sl (List.map GIns.c []), .int .i64 0] [(0, .app 158), (1, .app 158)])], []⟩ _ (by kernel_rfl) .nil ?_
  refine Wc.seq ?_
  refine Wc.region [] [] [1, 2, 3] [1, 2, 3] [] ⟨[(1, (.ptr 1 0, [])), (2, (.ptr 2 0, [])), (3, (.ptr 3 0, []))], [(1, .cells [.sl (List.map GIns.c q263_.gHead), .sl (List.map GIns.c q263_.gBody), .int .i64 q263_.gVars] []), (2, .cells [.sl (List.map GIns.c []), .sl (List.map GIns.c []), .int .i64 0] [(0, .app 158), (1, .app 158)]), (3, .cells [.sl (List.map GIns.c []), .sl (List.map GIns.c []), .int .i64 0] [(0, .app 158), (1, .app 158)])], []⟩ _ (by kernel_rfl) .nil ?_
  refine Wc.seq ?_
  obtain ⟨x264_, h238, h⟩ := obind h
  refine Wc.region [{}, {}, { r := some (.v (.sl (List.map GIns.c x264_)) []) }] [] [1, 2, 3] [1, 2, 3] [] ⟨[(1, (.ptr 1 0, [])), (2, (.ptr 2 0, [])), (3, (.ptr 3 0, []))], [(1, .cells [.sl (List.map GIns.c q263_.gHead), .sl (List.map GIns.c q263_.gBody), .int .i64 q263_.gVars] []), (2, .cells [.sl (List.map GIns.c []), .sl (List.map GIns.c []), .int .i64 0] [(0, .app 158), (1, .app 158)]), (3, .cells [.sl (List.map GIns.c x264_), .sl (List.map GIns.c []), .int .i64 0] [(1, .app 158)])], []⟩ _ (by kernel_rfl) (.cons (claws_toInsS h238) .nil) ?_
  refine Wc.seq ?_
  obtain ⟨x265_, h239, h⟩ := obind h
  refine Wc.region [{}, {}, { r := some (.v (.sl (List.map GIns.c x265_)) []) }] [] [1, 2, 3] [1, 2, 3] [] ⟨[(1, (.ptr 1 0, [])), (2, (.ptr 2 0, [])), (3, (.ptr 3 0, []))], [(1, .cells [.sl (List.map GIns.c q263_.gHead), .sl (List.map GIns.c q263_.gBody), .int .i64 q263_.gVars] []), (2, .cells [.sl (List.map GIns.c []), .sl (List.map GIns.c []), .int .i64 0] [(0, .app 158), (1, .app 158)]), (3, .cells [.sl (List.map GIns.c x264_), .sl (List.map GIns.c x265_), .int .i64 0] [])], []⟩ _ (by kernel_rfl) (.cons (claws_toInsS h239) .nil) ?_
  refine Wc.seq ?_
  refine Wc.region [] [] [2, 3] [2, 3] [] ⟨[(2, (.ptr 2 0, [])), (3, (.ptr 3 0, []))], [(2, .cells [.sl (List.map GIns.c []), .sl (List.map GIns.c []), .int .i64 0] [(0, .app 158), (1, .app 158)]), (3, .cells [.sl (List.map GIns.c x264_), .sl (List.map GIns.c x265_), .int .i64 q263_.gVars] [])], []⟩ _ (by kernel_rfl) .nil ?_
  refine Wc.seq ?_
  refine Wc.region [] [] [2] [2] [] ⟨[(2, (.ptr 2 0, []))], [(2, .cells [.sl (List.map GIns.c x264_), .sl (List.map GIns.c x265_), .int .i64 q263_.gVars] [])], []⟩ _ (by kernel_rfl) .nil ?_
  refine Wc.ret ?_
  obtain rfl := Option.some.inj h
  exact ⟨.inl rfl, by kernel_rfl, by kernel_rfl⟩

/-- laws.toKept -/
def plaws_toKept (k : Nat) (r266_ : GKept) : Option GKept :=
  (plaws_toClause k r266_.gClause).bind fun e267_ =>
  (plaws_toCode k r266_.gCode).bind fun q268_ =>
  some (GKept.mk e267_ q268_ r266_.gBorn r266_.gDied)
theorem claws_toKept {k : Nat} {r266_ : GKept} {r : GKept} (h : plaws_toKept k r266_ = some r) : FnO Try.prog 135 [.v (.agg [.int .i64 r266_.gClause.gHead.gKind, .str r266_.gClause.gHead.gName, .int .i64 r266_.gClause.gHead.gNum, .sl (List.map GTerm.c r266_.gClause.gHead.gKids), .int .i64 r266_.gClause.gBody.gKind, .str r266_.gClause.gBody.gName, .int .i64 r266_.gClause.gBody.gNum, .sl (List.map GTerm.c r266_.gClause.gBody.gKids), .str r266_.gClause.gFile, .sl (List.map GIns.c r266_.gCode.gHead), .sl (List.map GIns.c r266_.gCode.gBody), .int .i64 r266_.gCode.gVars, .int .i64 r266_.gBorn, .int .i64 r266_.gDied]) []] (.v (.agg [.int .i64 r.gClause.gHead.gKind, .str r.gClause.gHead.gName, .int .i64 r.gClause.gHead.gNum, .sl (List.map GTerm.c r.gClause.gHead.gKids), .int .i64 r.gClause.gBody.gKind, .str r.gClause.gBody.gName, .int .i64 r.gClause.gBody.gNum, .sl (List.map GTerm.c r.gClause.gBody.gKids), .str r.gClause.gFile, .sl (List.map GIns.c r.gCode.gHead), .sl (List.map GIns.c r.gCode.gBody), .int .i64 r.gCode.gVars, .int .i64 r.gBorn, .int .i64 r.gDied]) []) [] := by
  refine FnO.of Try.func135 (rfl : Try.f135.body = some _) (Nat.le_of_ble_eq_true (by kernel_rfl)) (Nat.le_of_ble_eq_true (by kernel_rfl)) ?_
  intro w0 X0 Fin pv0 pb
  unfold plaws_toKept at h
  refine Wc.seq ?_
  refine Wc.region [] [] [1, 2] [1, 2] [] ⟨[(1, (.ptr 1 0, [])), (2, (.ptr 2 0, []))], [(1, .cells [.int .i64 r266_.gClause.gHead.gKind, .str r266_.gClause.gHead.gName, .int .i64 r266_.gClause.gHead.gNum, .sl (List.map GTerm.c r266_.gClause.gHead.gKids), .int .i64 r266_.gClause.gBody.gKind, .str r266_.gClause.gBody.gName, .int .i64 r266_.gClause.gBody.gNum, .sl (List.map GTerm.c r266_.gClause.gBody.gKids), .str r266_.gClause.gFile, .sl (List.map GIns.c r266_.gCode.gHead), .sl (List.map GIns.c r266_.gCode.gBody), .int .i64 r266_.gCode.gVars, .int .i64 r266_.gBorn, .int .i64 r266_.gDied] []), (2, .cells [.int .i64 0, .str (bs []), .int .i64 0, .sl (List.map GTerm.c []), .int .i64 0, .str (bs []), .int .i64 0, .sl (List.map GTerm.c []), .str (bs []), .sl (List.map GIns.c []), .sl (List.map GIns.c []), .int .i64 0, .int .i64 0, .int .i64 0] [(3, .app 42), (7, .app 42), (9, .app 158), (10, .app 158)])], []⟩ _ (by kernel_rfl) .nil ?_
  refine Wc.seq ?_
  refine Wc.region [] [] [1, 2, 3] [1, 2, 3] [] ⟨[(1, (.ptr 1 0, [])), (2, (.ptr 2 0, [])), (3, (.ptr 3 0, []))], [(1, .cells [.int .i64 r266_.gClause.gHead.gKind, .str r266_.gClause.gHead.gName, .int .i64 r266_.gClause.gHead.gNum, .sl (List.map GTerm.c r266_.gClause.gHead.gKids), .int .i64 r266_.gClause.gBody.gKind, .str r266_.gClause.gBody.gName, .int .i64 r266_.gClause.gBody.gNum, .sl (List.map GTerm.c r266_.gClause.gBody.gKids), .str r266_.gClause.gFile, .sl (List.map GIns.c r266_.gCode.gHead), .sl (List.map GIns.c r266_.gCode.gBody), .int .i64 r266_.gCode.gVars, .int .i64 r266_.gBorn, .int .i64 r266_.gDied] []), (2, .cells [.int .i64 0, .str (bs []), .int .i64 0, .sl (List.map GTerm.c []), .int .i64 0, .str (bs []), .int .i64 0, .sl (List.map GTerm.c []), .str (bs []), .sl (List.map GIns.c []), .sl (List.map GIns.c []), .int .i64 0, .int .i64 0, .int .i64 0] [(3, .app 42), (7, .app 42), (9, .app 158), (10, .app 158)]), (3, .cells [.int .i64 0, .str (bs []), .int .i64 0, .sl (List.map GTerm.c []), .int .i64 0, .str (bs []), .int .i64 0, .sl (List.map GTerm.c []), .str (bs []), .sl (List.map GIns.c []), .sl (List.map GIns.c []), .int .i64 0, .int .i64 0, .int .i64 0] [(3, .app 42), (7, .app 42), (9, .app 158), (10, .app 158)])], []⟩ _ (by kernel_rfl) .nil ?_
  refine Wc.seq ?_
  obtain ⟨e267_, h240, h⟩ := obind h
  refine Wc.region [{}, {}, { r := some (.v (.agg [.int .i64 e267_.gHead.gKind, .str e267_.gHead.gName, .int .i64 e267_.gHead.gNum, .sl (List.map GTerm.c e267_.gHead.gKids), .int .i64 e267_.gBody.gKind, .str e267_.gBody.gName, .int .i64 e267_.gBody.gNum, .sl (List.map GTerm.c e267_.gBody.gKids), .str e267_.gFile]) []) }] [] [1, 2, 3] [1, 2, 3] [] ⟨[(1, (.ptr 1 0, [])), (2, (.ptr 2 0, [])), (3, (.ptr 3 0, []))], [(1, .cells [.int .i64 r266_.gClause.gHead.gKind, .str r266_.gClause.gHead.gName, .int .i64 r266_.gClause.gHead.gNum, .sl (List.map GTerm.c r266_.gClause.gHead.gKids), .int .i64 r266_.gClause.gBody.gKind, .str r266_.gClause.gBody.gName, .int .i64 r266_.gClause.gBody.gNum, .sl (List.map GTerm.c r266_.gClause.gBody.gKids), .str r266_.gClause.gFile, .sl (List.map GIns.c r266_.gCode.gHead), .sl (List.map GIns.c r266_.gCode.gBody), .int .i64 r266_.gCode.gVars, .int .i64 r266_.gBorn, .int .i64 r266_.gDied] []), (2, .cells [.int .i64 0, .str (bs []), .int .i64 0, .sl (List.map GTerm.c []), .int .i64 0, .str (bs []), .int .i64 0, .sl (List.map GTerm.c []), .str (bs []), .sl (List.map GIns.c []), .sl (List.map GIns.c []), .int .i64 0, .int .i64 0, .int .i64 0] [(3, .app 42), (7, .app 42), (9, .app 158), (10, .app 158)]), (3, .cells [.int .i64 e267_.gHead.gKind, .str e267_.gHead.gName, .int .i64 e267_.gHead.gNum, .sl (List.map GTerm.c e267_.gHead.gKids), .int .i64 e267_.gBody.gKind, .str e267_.gBody.gName, .int .i64 e267_.gBody.gNum, .sl (List.map GTerm.c e267_.gBody.gKids), .str e267_.gFile, .sl (List.map GIns.c []), .sl (List.map GIns.c []), .int .i64 0, .int .i64 0, .int .i64 0] [(9, .app 158), (10, .app 158)])], []⟩ _ (by kernel_rfl) (.cons (claws_toClause h240) .nil) ?_
  refine Wc.seq ?_
  obtain ⟨q268_, h241, h⟩ := obind h
  refine Wc.region [{}, {}, { r := some (.v (.agg [.sl (List.map GIns.c q268_.gHead), .sl (List.map GIns.c q268_.gBody), .int .i64 q268_.gVars]) []) }] [] [1, 2, 3] [1, 2, 3] [] ⟨[(1, (.ptr 1 0, [])), (2, (.ptr 2 0, [])), (3, (.ptr 3 0, []))], [(1, .cells [.int .i64 r266_.gClause.gHead.gKind, .str r266_.gClause.gHead.gName, .int .i64 r266_.gClause.gHead.gNum, .sl (List.map GTerm.c r266_.gClause.gHead.gKids), .int .i64 r266_.gClause.gBody.gKind, .str r266_.gClause.gBody.gName, .int .i64 r266_.gClause.gBody.gNum, .sl (List.map GTerm.c r266_.gClause.gBody.gKids), .str r266_.gClause.gFile, .sl (List.map GIns.c r266_.gCode.gHead), .sl (List.map GIns.c r266_.gCode.gBody), .int .i64 r266_.gCode.gVars, .int .i64 r266_.gBorn, .int .i64 r266_.gDied] []), (2, .cells [.int .i64 0, .str (bs []), .int .i64 0, .sl (List.map GTerm.c []), .int .i64 0, .str (bs []), .int .i64 0, .sl (List.map GTerm.c []), .str (bs []), .sl (List.map GIns.c []), .sl (List.map GIns.c []), .int .i64 0, .int .i64 0, .int .i64 0] [(3, .app 42), (7, .app 42), (9, .app 158), (10, .app 158)]), (3, .cells [.int .i64 e267_.gHead.gKind, .str e267_.gHead.gName, .int .i64 e267_.gHead.gNum, .sl (List.map GTerm.c e267_.gHead.gKids), .int .i64 e267_.gBody.gKind, .str e267_.gBody.gName, .int .i64 e267_.gBody.gNum, .sl (List.map GTerm.c e267_.gBody.gKids), .str e267_.gFile, .sl (List.map GIns.c q268_.gHead), .sl (List.map GIns.c q268_.gBody), .int .i64 q268_.gVars, .int .i64 0, .int .i64 0] [])], []⟩ _ (by kernel_rfl) (.cons (claws_toCode h241) .nil) ?_
  refine Wc.seq ?_
  refine Wc.region [] [] [1, 2, 3] [1, 2, 3] [] ⟨[(1, (.ptr 1 0, [])), (2, (.ptr 2 0, [])), (3, (.ptr 3 0, []))], [(1, .cells [.int .i64 r266_.gClause.gHead.gKind, .str r266_.gClause.gHead.gName, .int .i64 r266_.gClause.gHead.gNum, .sl (List.map GTerm.c r266_.gClause.gHead.gKids), .int .i64 r266_.gClause.gBody.gKind, .str r266_.gClause.gBody.gName, .int .i64 r266_.gClause.gBody.gNum, .sl (List.map GTerm.c r266_.gClause.gBody.gKids), .str r266_.gClause.gFile, .sl (List.map GIns.c r266_.gCode.gHead), .sl (List.map GIns.c r266_.gCode.gBody), .int .i64 r266_.gCode.gVars, .int .i64 r266_.gBorn, .int .i64 r266_.gDied] []), (2, .cells [.int .i64 0, .str (bs []), .int .i64 0, .sl (List.map GTerm.c []), .int .i64 0, .str (bs []), .int .i64 0, .sl (List.map GTerm.c []), .str (bs []), .sl (List.map GIns.c []), .sl (List.map GIns.c []), .int .i64 0, .int .i64 0, .int .i64 0] [(3, .app 42), (7, .app 42), (9, .app 158), (10, .app 158)]), (3, .cells [.int .i64 e267_.gHead.gKind, .str e267_.gHead.gName, .int .i64 e267_.gHead.gNum, .sl (List.map GTerm.c e267_.gHead.gKids), .int .i64 e267_.gBody.gKind, .str e267_.gBody.gName, .int .i64 e267_.gBody.gNum, .sl (List.map GTerm.c e267_.gBody.gKids), .str e267_.gFile, .sl (List.map GIns.c q268_.gHead), .sl (List.map GIns.c q268_.gBody), .int .i64 q268_.gVars, .int .i64 r266_.gBorn, .int .i64 0] [])], []⟩ _ (by kernel_rfl) .nil ?_
  refine Wc.seq ?_
  refine Wc.region [] [] [2, 3] [2, 3] [] ⟨[(2, (.ptr 2 0, [])), (3, (.ptr 3 0, []))], [(2, .cells [.int .i64 0, .str (bs []), .int .i64 0, .sl (List.map GTerm.c []), .int .i64 0, .str (bs []), .int .i64 0, .sl (List.map GTerm.c []), .str (bs []), .sl (List.map GIns.c []), .sl (List.map GIns.c []), .int .i64 0, .int .i64 0, .int .i64 0] [(3, .app 42), (7, .app 42), (9, .app 158), (10, .app 158)]), (3, .cells [.int .i64 e267_.gHead.gKind, .str e267_.gHead.gName, .int .i64 e267_.gHead.gNum, .sl (List.map GTerm.c e267_.gHead.gKids), .int .i64 e267_.gBody.gKind, .str e267_.gBody.gName, .int .i64 e267_.gBody.gNum, .sl (List.map GTerm.c e267_.gBody.gKids), .str e267_.gFile, .sl (List.map GIns.c q268_.gHead), .sl (List.map GIns.c q268_.gBody), .int .i64 q268_.gVars, .int .i64 r266_.gBorn, .int .i64 r266_.gDied] [])], []⟩ _ (by kernel_rfl) .nil ?_
  refine Wc.seq ?_
  refine Wc.region [] [] [2] [2] [] ⟨[(2, (.ptr 2 0, []))], [(2, .cells [.int .i64 e267_.gHead.gKind, .str e267_.gHead.gName, .int .i64 e267_.gHead.gNum, .sl (List.map GTerm.c e267_.gHead.gKids), .int .i64 e267_.gBody.gKind, .str e267_.gBody.gName, .int .i64 e267_.gBody.gNum, .sl (List.map GTerm.c e267_.gBody.gKids), .str e267_.gFile, .sl (List.map GIns.c q268_.gHead), .sl (List.map GIns.c q268_.gBody), .int .i64 q268_.gVars, .int .i64 r266_.gBorn, .int .i64 r266_.gDied] [])], []⟩ _ (by kernel_rfl) .nil ?_
  refine Wc.ret ?_
  obtain rfl := Option.some.inj h
  exact ⟨.inl rfl, by kernel_rfl, by kernel_rfl⟩

def plaws_toKeptS_L1 (k : Nat) (s269_ : List GKept) : Nat → (List GKept) → Int → Option (Out (List GKept) (List GKept))
  | 0, _, _ => none
  | m + 1, s270_, b271_ =>
    if (decide (b271_ < (s269_.length : Int))) = true then
      (at' s269_ b271_).bind fun r273_ =>
      (plaws_toKept k r273_).bind fun r274_ =>
      (at' s270_ b271_).bind fun r275_ =>
      plaws_toKeptS_L1 k s269_ m (s270_.set ((b271_).toNat) r274_) (wr.i64 (b271_ + 1))
    else
      some (.done s270_)
/-- laws.toKeptS -/
def plaws_toKeptS (k : Nat) (s269_ : List GKept) : Option (List GKept) :=
  if 0 ≤ (s269_.length : Int) ∧ (s269_.length : Int) ≤ 1073741824 then
    (plaws_toKeptS_L1 k s269_ k (List.replicate ((s269_.length : Int)).toNat (GKept.mk (GClause.mk (GTerm.mk 0 (bs []) 0 []) (GTerm.mk 0 (bs []) 0 []) (bs [])) (GCode.mk [] [] 0) 0 0)) 0).bind fun out1 => match out1 with
    | .ret r => some r
    | .done s272_ =>
      some s272_
  else none
theorem claws_toKeptS {k : Nat} {s269_ : List GKept} {r : (List GKept)} (h : plaws_toKeptS k s269_ = some r) : FnO Try.prog 97 [.v (.sl (List.map GKept.c s269_)) []] (.v (.sl (List.map GKept.c r)) []) [] := by
  refine FnO.of Try.func97 (rfl : Try.f97.body = some _) (Nat.le_of_ble_eq_true (by kernel_rfl)) (Nat.le_of_ble_eq_true (by kernel_rfl)) ?_
  intro w0 X0 Fin pv0 pb
  unfold plaws_toKeptS at h
  refine Wc.seq ?_
  refine Wc.region [] [] [0] [] [] ⟨[(0, (.v (.sl (List.map GKept.c s269_)), []))], [], []⟩ _ (by kernel_rfl) .nil ?_
  refine Wc.seq ?_
  obtain ⟨h242, h⟩ := oguard h
  refine Wc.region [{}, { v := some (.int .i64 (s269_.length : Int)) }, { c := some (List.map GKept.c (List.replicate ((s269_.length : Int)).toNat (GKept.mk (GClause.mk (GTerm.mk 0 (bs []) 0 []) (GTerm.mk 0 (bs []) 0 []) (bs [])) (GCode.mk [] [] 0) 0 0))) }, { tk := [7], fx := [.ag (.t 7 0)] }] [] [0, 3] [] [] ⟨[(0, (.v (.sl (List.map GKept.c s269_)), [])), (3, (.v (.slx), [(0, .ex 128 false (List.map GKept.c (List.replicate ((s269_.length : Int)).toNat (GKept.mk (GClause.mk (GTerm.mk 0 (bs []) 0 []) (GTerm.mk 0 (bs []) 0 []) (bs [])) (GCode.mk [] [] 0) 0 0))))]))], [], []⟩ _ (by kernel_rfl) (.cons (len_obl GKept.c s269_) (.cons (rep_re (c := GKept.c) (z := (GKept.mk (GClause.mk (GTerm.mk 0 (bs []) 0 []) (GTerm.mk 0 (bs []) 0 []) (bs [])) (GCode.mk [] [] 0) 0 0)) (GKept.c_eq (GKept.mk (GClause.mk (GTerm.mk 0 (bs []) 0 []) (GTerm.mk 0 (bs []) 0 []) (bs [])) (GCode.mk [] [] 0) 0 0)) ((s269_.length : Int)).toNat) (.cons (ms_obl h242) .nil))) ?_
  refine Wc.seq ?_
  refine Wc.seq ?_
  refine Wc.region [] [] [0, 3, 4] [] [] ⟨[(0, (.v (.sl (List.map GKept.c s269_)), [])), (3, (.v (.slx), [(0, .ex 128 false (List.map GKept.c (List.replicate ((s269_.length : Int)).toNat (GKept.mk (GClause.mk (GTerm.mk 0 (bs []) 0 []) (GTerm.mk 0 (bs []) 0 []) (bs [])) (GCode.mk [] [] 0) 0 0))))])), (4, (.v (.int .i64 0), []))], [], []⟩ _ (by kernel_rfl) .nil ?_
  obtain ⟨out1, h243, h⟩ := obind h
  refine Wc.lastJ (fun st => ∃ (s272_ : List GKept), out1 = .done s272_ ∧ st = ⟨[(3, (.v (.slx), [(0, .ex 128 false (List.map GKept.c s272_))]))], [], []⟩) ?_ ?_
  · refine Wc.block ?_
    refine Wc.loop (fun m st => ∃ (s270_ : List GKept) (b271_ : Int), st = ⟨[(0, (.v (.sl (List.map GKept.c s269_)), [])), (3, (.v (.slx), [(0, .ex 128 false (List.map GKept.c s270_))])), (4, (.v (.int .i64 b271_), []))], [], []⟩ ∧ plaws_toKeptS_L1 k s269_ m s270_ b271_ = some out1) ?_ k ⟨_, _, rfl, h243⟩
    rintro m st ⟨s270_, b271_, rfl, h243⟩
    cases m with
    | zero => exact (onone h243).elim
    | succ m =>
      refine Wc.seq ?_
      refine Wc.seq ?_
      refine Wc.region [{}, {}, { v := some (.int .i64 (s269_.length : Int)) }] [] [0, 3, 4, 11] [] [] ⟨[(0, (.v (.sl (List.map GKept.c s269_)), [])), (3, (.v (.slx), [(0, .ex 128 false (List.map GKept.c s270_))])), (4, (.v (.int .i64 b271_), [])), (11, (.v (.bool (decide (b271_ < (s269_.length : Int)))), []))], [], []⟩ _ (by kernel_rfl) (.cons (len_obl GKept.c s269_) .nil) ?_
      rcases oif h243 with ⟨h244, h243⟩ | ⟨h244, h243⟩
      · refine Wc.condT h244 (by kernel_rfl) ?_
        refine Wc.fix (st' := ⟨[(0, (.v (.sl (List.map GKept.c s269_)), [])), (3, (.v (.slx), [(0, .ex 128 false (List.map GKept.c s270_))])), (4, (.v (.int .i64 b271_), []))], [], []⟩) [] [0, 3, 4] [] [] (by kernel_rfl) ?_
        refine Wc.skip ?_
        refine Wc.seq ?_
        refine Wc.block ?_
        obtain ⟨r273_, h245, h243⟩ := obind h243
        obtain ⟨r274_, h246, h243⟩ := obind h243
        obtain ⟨r275_, h247, h243⟩ := obind h243
        refine Wc.region [{}, {}, {}, {}, { v := some (.vptr [.int .i64 r273_.gClause.gHead.gKind, .str r273_.gClause.gHead.gName, .int .i64 r273_.gClause.gHead.gNum, .sl (List.map GTerm.c r273_.gClause.gHead.gKids), .int .i64 r273_.gClause.gBody.gKind, .str r273_.gClause.gBody.gName, .int .i64 r273_.gClause.gBody.gNum, .sl (List.map GTerm.c r273_.gClause.gBody.gKids), .str r273_.gClause.gFile, .sl (List.map GIns.c r273_.gCode.gHead), .sl (List.map GIns.c r273_.gCode.gBody), .int .i64 r273_.gCode.gVars, .int .i64 r273_.gBorn, .int .i64 r273_.gDied]) }, {}, { r := some (.v (.agg [.int .i64 r274_.gClause.gHead.gKind, .str r274_.gClause.gHead.gName, .int .i64 r274_.gClause.gHead.gNum, .sl (List.map GTerm.c r274_.gClause.gHead.gKids), .int .i64 r274_.gClause.gBody.gKind, .str r274_.gClause.gBody.gName, .int .i64 r274_.gClause.gBody.gNum, .sl (List.map GTerm.c r274_.gClause.gBody.gKids), .str r274_.gClause.gFile, .sl (List.map GIns.c r274_.gCode.gHead), .sl (List.map GIns.c r274_.gCode.gBody), .int .i64 r274_.gCode.gVars, .int .i64 r274_.gBorn, .int .i64 r274_.gDied]) []) }, {}, { c := some (List.map GKept.c (s270_.set ((b271_).toNat) r274_)) }] [] [0, 3, 4] [] [] ⟨[(0, (.v (.sl (List.map GKept.c s269_)), [])), (3, (.v (.slx), [(0, .ex 128 false (List.map GKept.c (s270_.set ((b271_).toNat) r274_)))])), (4, (.v (.int .i64 b271_), []))], [], []⟩ _ (by kernel_rfl) (.cons (at_obl (c := GKept.c) (GKept.c_eq r273_) GKept.c_len h245) (.cons (len_ok 14 [.int .i64 r273_.gClause.gHead.gKind, .str r273_.gClause.gHead.gName, .int .i64 r273_.gClause.gHead.gNum, .sl (List.map GTerm.c r273_.gClause.gHead.gKids), .int .i64 r273_.gClause.gBody.gKind, .str r273_.gClause.gBody.gName, .int .i64 r273_.gClause.gBody.gNum, .sl (List.map GTerm.c r273_.gClause.gBody.gKids), .str r273_.gClause.gFile, .sl (List.map GIns.c r273_.gCode.gHead), .sl (List.map GIns.c r273_.gCode.gBody), .int .i64 r273_.gCode.gVars, .int .i64 r273_.gBorn, .int .i64 r273_.gDied]) (.cons (claws_toKept h246) (.cons (ix_obl (c := GKept.c) GKept.c_len h247) (.cons (mod_obl (off := 0) (new := [.int .i64 r274_.gClause.gHead.gKind, .str r274_.gClause.gHead.gName, .int .i64 r274_.gClause.gHead.gNum, .sl (List.map GTerm.c r274_.gClause.gHead.gKids), .int .i64 r274_.gClause.gBody.gKind, .str r274_.gClause.gBody.gName, .int .i64 r274_.gClause.gBody.gNum, .sl (List.map GTerm.c r274_.gClause.gBody.gKids), .str r274_.gClause.gFile, .sl (List.map GIns.c r274_.gCode.gHead), .sl (List.map GIns.c r274_.gCode.gBody), .int .i64 r274_.gCode.gVars, .int .i64 r274_.gBorn, .int .i64 r274_.gDied]) (c := GKept.c) (GKept.c_eq r275_) (GKept.c_eq r274_) (at'_spec h247).2 rfl) (.cons (st_obl (sz := 14) (off := 0) (s := 14) (c := GKept.c) (GKept.c_eq r275_) (at'_spec h247).2 rfl (Nat.le_of_ble_eq_true rfl)) .nil)))))) ?_
        refine Wc.region [] [] [0, 3, 4] [] [] ⟨[(0, (.v (.sl (List.map GKept.c s269_)), [])), (3, (.v (.slx), [(0, .ex 128 false (List.map GKept.c (s270_.set ((b271_).toNat) r274_)))])), (4, (.v (.int .i64 (wr.i64 (b271_ + 1))), []))], [], []⟩ _ (by kernel_rfl) .nil ?_
        exact ⟨_, Nat.lt_succ_self _, _, _, rfl, h243⟩
      · refine Wc.condF h244 (by kernel_rfl) ?_
        refine Wc.fix (st' := ⟨[(3, (.v (.slx), [(0, .ex 128 false (List.map GKept.c s270_))]))], [], []⟩) [] [3] [] [] (by kernel_rfl) ?_
        refine Wc.exit ?_
        obtain rfl := Option.some.inj h243
        exact ⟨_, rfl, rfl⟩
  · rintro st ⟨s272_, rfl, rfl⟩
    refine Wc.seq ?_
    refine Wc.region [{ tk := [3] }, { tk := [22] }] [] [2] [] [] ⟨[(2, (.v (.slx), [(0, .ex 128 false (List.map GKept.c s272_))]))], [], []⟩ _ (by kernel_rfl) .nil ?_
    refine Wc.fix (st' := ⟨[(2, (.v (.sl (List.map GKept.c s272_)), []))], [], []⟩) [.sh (.t 2 0)] [2] [] [] (by kernel_rfl) ?_
    refine Wc.ret ?_
    obtain rfl := Option.some.inj h
    exact ⟨.inl rfl, by kernel_rfl, by kernel_rfl⟩

/-- laws.toStore -/
def plaws_toStore (k : Nat) (t276_ : GStore) : Option GStore :=
  (plaws_toKeptS k t276_.gList).bind fun y277_ =>
  (plaws_toStringS k t276_.gOpen).bind fun w278_ =>
  some (GStore.mk y277_ w278_ t276_.gNow)
theorem claws_toStore {k : Nat} {t276_ : GStore} {r : GStore} (h : plaws_toStore k t276_ = some r) : FnO Try.prog 41 [.v (.agg [.sl (List.map GKept.c t276_.gList), .sl (List.map cS t276_.gOpen), .int .i64 t276_.gNow]) []] (.v (.agg [.sl (List.map GKept.c r.gList), .sl (List.map cS r.gOpen), .int .i64 r.gNow]) []) [] := by
  refine FnO.of Try.func41 (rfl : Try.f41.body = some _) (Nat.le_of_ble_eq_true (by kernel_rfl)) (Nat.le_of_ble_eq_true (by kernel_rfl)) ?_
  intro w0 X0 Fin pv0 pb
  unfold plaws_toStore at h
  refine Wc.seq ?_
  refine Wc.region [] [] [1, 2] [1, 2] [] ⟨[(1, (.ptr 1 0, [])), (2, (.ptr 2 0, []))], [(1, .cells [.sl (List.map GKept.c t276_.gList), .sl (List.map cS t276_.gOpen), .int .i64 t276_.gNow] []), (2, .cells [.sl (List.map GKept.c []), .sl (List.map cS []), .int .i64 0] [(0, .app 128), (1, .app 9)])], []⟩ _ (by kernel_rfl) .nil ?_
  refine Wc.seq ?_
  refine Wc.region [] [] [1, 2, 3] [1, 2, 3] [] ⟨[(1, (.ptr 1 0, [])), (2, (.ptr 2 0, [])), (3, (.ptr 3 0, []))], [(1, .cells [.sl (List.map GKept.c t276_.gList), .sl (List.map cS t276_.gOpen), .int .i64 t276_.gNow] []), (2, .cells [.sl (List.map GKept.c []), .sl (List.map cS []), .int .i64 0] [(0, .app 128), (1, .app 9)]), (3, .cells [.sl (List.map GKept.c []), .sl (List.map cS []), .int .i64 0] [(0, .app 128), (1, .app 9)])], []⟩ _ (by kernel_rfl) .nil ?_
  refine Wc.seq ?_
  obtain ⟨y277_, h248, h⟩ := obind h
  refine Wc.region [{}, {}, { r := some (.v (.sl (List.map GKept.c y277_)) []) }] [] [1, 2, 3] [1, 2, 3] [] ⟨[(1, (.ptr 1 0, [])), (2, (.ptr 2 0, [])), (3, (.ptr 3 0, []))], [(1, .cells [.sl (List.map GKept.c t276_.gList), .sl (List.map cS t276_.gOpen), .int .i64 t276_.gNow] []), (2, .cells [.sl (List.map GKept.c []), .sl (List.map cS []), .int .i64 0] [(0, .app 128), (1, .app 9)]), (3, .cells [.sl (List.map GKept.c y277_), .sl (List.map cS []), .int .i64 0] [(1, .app 9)])], []⟩ _ (by kernel_rfl) (.cons (claws_toKeptS h248) .nil) ?_
  refine Wc.seq ?_
  obtain ⟨w278_, h249, h⟩ := obind h
  refine Wc.region [{}, {}, { r := some (.v (.sl (List.map cS w278_)) []) }] [] [1, 2, 3] [1, 2, 3] [] ⟨[(1, (.ptr 1 0, [])), (2, (.ptr 2 0, [])), (3, (.ptr 3 0, []))], [(1, .cells [.sl (List.map GKept.c t276_.gList), .sl (List.map cS t276_.gOpen), .int .i64 t276_.gNow] []), (2, .cells [.sl (List.map GKept.c []), .sl (List.map cS []), .int .i64 0] [(0, .app 128), (1, .app 9)]), (3, .cells [.sl (List.map GKept.c y277_), .sl (List.map cS w278_), .int .i64 0] [])], []⟩ _ (by kernel_rfl) (.cons (claws_toStringS h249) .nil) ?_
  refine Wc.seq ?_
  refine Wc.region [] [] [2, 3] [2, 3] [] ⟨[(2, (.ptr 2 0, [])), (3, (.ptr 3 0, []))], [(2, .cells [.sl (List.map GKept.c []), .sl (List.map cS []), .int .i64 0] [(0, .app 128), (1, .app 9)]), (3, .cells [.sl (List.map GKept.c y277_), .sl (List.map cS w278_), .int .i64 t276_.gNow] [])], []⟩ _ (by kernel_rfl) .nil ?_
  refine Wc.seq ?_
  refine Wc.region [] [] [2] [2] [] ⟨[(2, (.ptr 2 0, []))], [(2, .cells [.sl (List.map GKept.c y277_), .sl (List.map cS w278_), .int .i64 t276_.gNow] [])], []⟩ _ (by kernel_rfl) .nil ?_
  refine Wc.ret ?_
  obtain rfl := Option.some.inj h
  exact ⟨.inl rfl, by kernel_rfl, by kernel_rfl⟩

/-- impl.copyTerm$1 -/
def pimpl_copyTerm_1 (k : Nat) (b279_ : Int) : Option Int :=
  some b279_
theorem cimpl_copyTerm_1 {k : Nat} {b279_ : Int} {r : Int} (h : pimpl_copyTerm_1 k b279_ = some r) : FnO Try.prog 154 [.v (.int .i64 b279_) []] (.v (.int .i64 r) []) [] := by
  refine FnO.of Try.func154 (rfl : Try.f154.body = some _) (Nat.le_of_ble_eq_true (by kernel_rfl)) (Nat.le_of_ble_eq_true (by kernel_rfl)) ?_
  intro w0 X0 Fin pv0 pb
  unfold pimpl_copyTerm_1 at h
  refine Wc.seq ?_
  refine Wc.region [] [] [0] [] [] ⟨[(0, (.v (.int .i64 b279_), []))], [], []⟩ _ (by kernel_rfl) .nil ?_
  refine Wc.seq ?_
  refine Wc.region [] [] [2] [] [] ⟨[(2, (.v (.int .i64 b279_), []))], [], []⟩ _ (by kernel_rfl) .nil ?_
  refine Wc.ret ?_
  obtain rfl := Option.some.inj h
  exact ⟨.inl rfl, by kernel_rfl, by kernel_rfl⟩

def pimpl_renamed_on1_pimpl_copyTerm_1_L2 (k : Nat) (rimpl_renamed_on1_pimpl_copyTerm_1 : GTerm → Option GTerm) (c289_ : GTerm) : Nat → Int → GTerm → Option (Out GTerm GTerm)
  | 0, _, _ => none
  | m + 1, b291_, c292_ =>
    if (decide (b291_ < (c289_.gKids.length : Int))) = true then
      (at' c289_.gKids b291_).bind fun c294_ =>
      (rimpl_renamed_on1_pimpl_copyTerm_1 c294_).bind fun c295_ =>
      if c292_.gKids.length + [c295_].length ≤ 1073741824 then
        pimpl_renamed_on1_pimpl_copyTerm_1_L2 k rimpl_renamed_on1_pimpl_copyTerm_1 c289_ m (wr.i64 (b291_ + 1)) (GTerm.mk c292_.gKind c292_.gName c292_.gNum (c292_.gKids ++ [c295_]))
      else none
    else
      some (.done c292_)
def pimpl_renamed_on1_pimpl_copyTerm_1_J1 (k : Nat) (rimpl_renamed_on1_pimpl_copyTerm_1 : GTerm → Option GTerm) (c289_ : GTerm) (c290_ : GTerm) : Option GTerm :=
  (pimpl_renamed_on1_pimpl_copyTerm_1_L2 k rimpl_renamed_on1_pimpl_copyTerm_1 c289_ k 0 c290_).bind fun out2 => match out2 with
  | .ret r => some r
  | .done c293_ =>
    some c293_
mutual
/-- impl.renamed -/
def pimpl_renamed_on1_pimpl_copyTerm_1 : Nat → GTerm → Option GTerm
  | 0, _ => none
  | k + 1, c289_ =>
    if (c289_.gKind == 1) = true then
      (pimpl_copyTerm_1 k c289_.gNum).bind fun b296_ =>
      pimpl_renamed_on1_pimpl_copyTerm_1_J1 k (pimpl_renamed_on1_pimpl_copyTerm_1 k) c289_ (GTerm.mk c289_.gKind c289_.gName b296_ [])
    else
      pimpl_renamed_on1_pimpl_copyTerm_1_J1 k (pimpl_renamed_on1_pimpl_copyTerm_1 k) c289_ (GTerm.mk c289_.gKind c289_.gName c289_.gNum [])
end
theorem all_pimpl_renamed_on1_pimpl_copyTerm_1 : ∀ k : Nat, (∀ {c289_ : GTerm} {r : GTerm}, pimpl_renamed_on1_pimpl_copyTerm_1 k c289_ = some r → FnO Try.prog 153 [.v (.agg [.int .i64 c289_.gKind, .str c289_.gName, .int .i64 c289_.gNum, .sl (List.map GTerm.c c289_.gKids)]) [], .v (.func 154 []) []] (.v (.agg [.int .i64 r.gKind, .str r.gName, .int .i64 r.gNum, .sl (List.map GTerm.c r.gKids)]) [(3, .app 42)]) []) := by
  intro k
  induction k with
  | zero =>
    · intro c289_ r h
      exact (onone (by rw [pimpl_renamed_on1_pimpl_copyTerm_1] at h; exact h)).elim
  | succ k ih =>
    have ih_pimpl_renamed_on1_pimpl_copyTerm_1 := @ih
    · intro c289_ r h
      rw [pimpl_renamed_on1_pimpl_copyTerm_1] at h
      refine FnO.of Try.func153 (rfl : Try.f153.body = some _) (Nat.le_of_ble_eq_true (by kernel_rfl)) (Nat.le_of_ble_eq_true (by kernel_rfl)) ?_
      intro w0 X0 Fin pv0 pb
      refine Wc.seq ?_
      refine Wc.region [] [] [1, 2, 4] [2, 4] [] ⟨[(1, (.v (.func 154 []), [])), (2, (.ptr 2 0, [])), (4, (.ptr 4 0, []))], [(2, .cells [.int .i64 c289_.gKind, .str c289_.gName, .int .i64 c289_.gNum, .sl (List.map GTerm.c c289_.gKids)] []), (4, .cells [.int .i64 0, .str (bs []), .int .i64 0, .sl (List.map GTerm.c [])] [(3, .app 42)])], []⟩ _ (by kernel_rfl) .nil ?_
      refine Wc.seq ?_
      refine Wc.region [] [] [1, 2, 4, 5] [2, 4, 5] [] ⟨[(1, (.v (.func 154 []), [])), (2, (.ptr 2 0, [])), (4, (.ptr 4 0, [])), (5, (.ptr 5 0, []))], [(2, .cells [.int .i64 c289_.gKind, .str c289_.gName, .int .i64 c289_.gNum, .sl (List.map GTerm.c c289_.gKids)] []), (4, .cells [.int .i64 0, .str (bs []), .int .i64 0, .sl (List.map GTerm.c [])] [(3, .app 42)]), (5, .cells [.int .i64 c289_.gKind, .str c289_.gName, .int .i64 c289_.gNum, .sl (List.map GTerm.c c289_.gKids)] [])], []⟩ _ (by kernel_rfl) .nil ?_
      refine Wc.seq ?_
      refine Wc.region [] [] [1, 2, 4, 5] [2, 4, 5] [] ⟨[(1, (.v (.func 154 []), [])), (2, (.ptr 2 0, [])), (4, (.ptr 4 0, [])), (5, (.ptr 5 0, []))], [(2, .cells [.int .i64 c289_.gKind, .str c289_.gName, .int .i64 c289_.gNum, .sl (List.map GTerm.c c289_.gKids)] []), (4, .cells [.int .i64 0, .str (bs []), .int .i64 0, .sl (List.map GTerm.c [])] [(3, .app 42)]), (5, .cells [.int .i64 c289_.gKind, .str c289_.gName, .int .i64 c289_.gNum, .sl (List.map GTerm.c [])] [(3, .app 42)])], []⟩ _ (by kernel_rfl) .nil ?_
      refine Wc.seqJ (fun st => ∃ (c290_ : GTerm), st = ⟨[(1, (.v (.func 154 []), [])), (2, (.ptr 2 0, [])), (4, (.ptr 4 0, [])), (5, (.ptr 5 0, []))], [(2, .cells [.int .i64 c289_.gKind, .str c289_.gName, .int .i64 c289_.gNum, .sl (List.map GTerm.c c289_.gKids)] []), (4, .cells [.int .i64 0, .str (bs []), .int .i64 0, .sl (List.map GTerm.c [])] [(3, .app 42)]), (5, .cells [.int .i64 c290_.gKind, .str c290_.gName, .int .i64 c290_.gNum, .sl (List.map GTerm.c c290_.gKids)] [(3, .app 42)])], []⟩ ∧ pimpl_renamed_on1_pimpl_copyTerm_1_J1 k (pimpl_renamed_on1_pimpl_copyTerm_1 k) c289_ c290_ = some r) ?_ ?_
      · refine Wc.seq ?_
        refine Wc.region [] [] [1, 2, 4, 5, 12] [2, 4, 5] [] ⟨[(1, (.v (.func 154 []), [])), (2, (.ptr 2 0, [])), (4, (.ptr 4 0, [])), (5, (.ptr 5 0, [])), (12, (.v (.bool (c289_.gKind == 1)), []))], [(2, .cells [.int .i64 c289_.gKind, .str c289_.gName, .int .i64 c289_.gNum, .sl (List.map GTerm.c c289_.gKids)] []), (4, .cells [.int .i64 0, .str (bs []), .int .i64 0, .sl (List.map GTerm.c [])] [(3, .app 42)]), (5, .cells [.int .i64 c289_.gKind, .str c289_.gName, .int .i64 c289_.gNum, .sl (List.map GTerm.c [])] [(3, .app 42)])], []⟩ _ (by kernel_rfl) .nil ?_
        rcases oif h with ⟨h262, h⟩ | ⟨h262, h⟩
        · refine Wc.condT h262 (by kernel_rfl) ?_
          obtain ⟨b296_, h263, h⟩ := obind h
          refine Wc.region [{}, {}, {}, { r := some (.v (.int .i64 b296_) []) }] [] [1, 2, 4, 5] [2, 4, 5] [] ⟨[(1, (.v (.func 154 []), [])), (2, (.ptr 2 0, [])), (4, (.ptr 4 0, [])), (5, (.ptr 5 0, []))], [(2, .cells [.int .i64 c289_.gKind, .str c289_.gName, .int .i64 c289_.gNum, .sl (List.map GTerm.c c289_.gKids)] []), (4, .cells [.int .i64 0, .str (bs []), .int .i64 0, .sl (List.map GTerm.c [])] [(3, .app 42)]), (5, .cells [.int .i64 c289_.gKind, .str c289_.gName, .int .i64 b296_, .sl (List.map GTerm.c [])] [(3, .app 42)])], []⟩ _ (by kernel_rfl) (.cons (cimpl_copyTerm_1 h263) .nil) ?_
          exact ⟨_, rfl, h⟩
        · refine Wc.condF h262 (by kernel_rfl) ?_
          refine Wc.fix (st' := ⟨[(1, (.v (.func 154 []), [])), (2, (.ptr 2 0, [])), (4, (.ptr 4 0, [])), (5, (.ptr 5 0, []))], [(2, .cells [.int .i64 c289_.gKind, .str c289_.gName, .int .i64 c289_.gNum, .sl (List.map GTerm.c c289_.gKids)] []), (4, .cells [.int .i64 0, .str (bs []), .int .i64 0, .sl (List.map GTerm.c [])] [(3, .app 42)]), (5, .cells [.int .i64 c289_.gKind, .str c289_.gName, .int .i64 c289_.gNum, .sl (List.map GTerm.c [])] [(3, .app 42)])], []⟩) [] [1, 2, 4, 5] [2, 4, 5] [] (by kernel_rfl) ?_
          refine Wc.skip ?_
          exact ⟨_, rfl, h⟩
      · rintro st ⟨c290_, rfl, h⟩
        refine Wc.seq ?_
        refine Wc.seq ?_
        refine Wc.region [{}, {}, { v := some (.int .i64 (c289_.gKids.length : Int)) }] [] [1, 4, 5, 19, 20, 21] [4, 5] [] ⟨[(1, (.v (.func 154 []), [])), (4, (.ptr 4 0, [])), (5, (.ptr 5 0, [])), (19, (.v (.sl (List.map GTerm.c c289_.gKids)), [])), (20, (.v (.int .i64 (c289_.gKids.length : Int)), [])), (21, (.v (.int .i64 0), []))], [(4, .cells [.int .i64 0, .str (bs []), .int .i64 0, .sl (List.map GTerm.c [])] [(3, .app 42)]), (5, .cells [.int .i64 c290_.gKind, .str c290_.gName, .int .i64 c290_.gNum, .sl (List.map GTerm.c c290_.gKids)] [(3, .app 42)])], []⟩ _ (by kernel_rfl) (.cons (len_obl GTerm.c c289_.gKids) .nil) ?_
        obtain ⟨out2, h257, h⟩ := obind h
        refine Wc.lastJ (fun st => ∃ (c293_ : GTerm), out2 = .done c293_ ∧ st = ⟨[(4, (.ptr 4 0, [])), (5, (.ptr 5 0, []))], [(4, .cells [.int .i64 0, .str (bs []), .int .i64 0, .sl (List.map GTerm.c [])] [(3, .app 42)]), (5, .cells [.int .i64 c293_.gKind, .str c293_.gName, .int .i64 c293_.gNum, .sl (List.map GTerm.c c293_.gKids)] [(3, .app 42)])], []⟩) ?_ ?_
        · refine Wc.block ?_
          refine Wc.loop (fun m st => ∃ (b291_ : Int) (c292_ : GTerm), st = ⟨[(1, (.v (.func 154 []), [])), (4, (.ptr 4 0, [])), (5, (.ptr 5 0, [])), (19, (.v (.sl (List.map GTerm.c c289_.gKids)), [])), (20, (.v (.int .i64 (c289_.gKids.length : Int)), [])), (21, (.v (.int .i64 b291_), []))], [(4, .cells [.int .i64 0, .str (bs []), .int .i64 0, .sl (List.map GTerm.c [])] [(3, .app 42)]), (5, .cells [.int .i64 c292_.gKind, .str c292_.gName, .int .i64 c292_.gNum, .sl (List.map GTerm.c c292_.gKids)] [(3, .app 42)])], []⟩ ∧ pimpl_renamed_on1_pimpl_copyTerm_1_L2 k (pimpl_renamed_on1_pimpl_copyTerm_1 k) c289_ m b291_ c292_ = some out2) ?_ k ⟨_, _, rfl, h257⟩
          rintro m st ⟨b291_, c292_, rfl, h257⟩
          cases m with
          | zero => exact (onone h257).elim
          | succ m =>
            refine Wc.seq ?_
            refine Wc.region [] [] [1, 4, 5, 19, 20, 21, 22] [4, 5] [] ⟨[(1, (.v (.func 154 []), [])), (4, (.ptr 4 0, [])), (5, (.ptr 5 0, [])), (19, (.v (.sl (List.map GTerm.c c289_.gKids)), [])), (20, (.v (.int .i64 (c289_.gKids.length : Int)), [])), (21, (.v (.int .i64 b291_), [])), (22, (.v (.bool (decide (b291_ < (c289_.gKids.length : Int)))), []))], [(4, .cells [.int .i64 0, .str (bs []), .int .i64 0, .sl (List.map GTerm.c [])] [(3, .app 42)]), (5, .cells [.int .i64 c292_.gKind, .str c292_.gName, .int .i64 c292_.gNum, .sl (List.map GTerm.c c292_.gKids)] [(3, .app 42)])], []⟩ _ (by kernel_rfl) .nil ?_
            refine Wc.seq ?_
            rcases oif h257 with ⟨h258, h257⟩ | ⟨h258, h257⟩
            · refine Wc.condT h258 (by kernel_rfl) ?_
              refine Wc.fix (st' := ⟨[(1, (.v (.func 154 []), [])), (4, (.ptr 4 0, [])), (5, (.ptr 5 0, [])), (19, (.v (.sl (List.map GTerm.c c289_.gKids)), [])), (20, (.v (.int .i64 (c289_.gKids.length : Int)), [])), (21, (.v (.int .i64 b291_), []))], [(4, .cells [.int .i64 0, .str (bs []), .int .i64 0, .sl (List.map GTerm.c [])] [(3, .app 42)]), (5, .cells [.int .i64 c292_.gKind, .str c292_.gName, .int .i64 c292_.gNum, .sl (List.map GTerm.c c292_.gKids)] [(3, .app 42)])], []⟩) [] [1, 4, 5, 19, 20, 21] [4, 5] [] (by kernel_rfl) ?_
              refine Wc.skip ?_
              refine Wc.seq ?_
              refine Wc.block ?_
              refine Wc.seq ?_
              obtain ⟨c294_, h259, h257⟩ := obind h257
              refine Wc.region [{ v := some (.vptr [.int .i64 c294_.gKind, .str c294_.gName, .int .i64 c294_.gNum, .sl (List.map GTerm.c c294_.gKids)]) }] [] [1, 4, 5, 7, 19, 20, 21] [4, 5, 7] [] ⟨[(1, (.v (.func 154 []), [])), (4, (.ptr 4 0, [])), (5, (.ptr 5 0, [])), (7, (.ptr 7 0, [])), (19, (.v (.sl (List.map GTerm.c c289_.gKids)), [])), (20, (.v (.int .i64 (c289_.gKids.length : Int)), [])), (21, (.v (.int .i64 b291_), []))], [(4, .cells [.int .i64 0, .str (bs []), .int .i64 0, .sl (List.map GTerm.c [])] [(3, .app 42)]), (5, .cells [.int .i64 c292_.gKind, .str c292_.gName, .int .i64 c292_.gNum, .sl (List.map GTerm.c c292_.gKids)] [(3, .app 42)]), (7, .cells [.int .i64 c294_.gKind, .str c294_.gName, .int .i64 c294_.gNum, .sl (List.map GTerm.c c294_.gKids)] [])], []⟩ _ (by kernel_rfl) (.cons (at_obl (c := GTerm.c) (GTerm.c_eq c294_) GTerm.c_len h259) (.cons (len_ok 4 [.int .i64 c294_.gKind, .str c294_.gName, .int .i64 c294_.gNum, .sl (List.map GTerm.c c294_.gKids)]) .nil)) ?_
              obtain ⟨c295_, h260, h257⟩ := obind h257
              obtain ⟨h261, h257⟩ := oguard h257
              refine Wc.draw hmix [{}, { md := 1 }, {}, {}, { r := some (.v (.agg [.int .i64 c295_.gKind, .str c295_.gName, .int .i64 c295_.gNum, .sl (List.map GTerm.c c295_.gKids)]) [(3, .app 42)]) }, { c := some (List.map GTerm.c [c295_]) }, { c := some (List.map GTerm.c (c292_.gKids ++ [c295_])), tk := [26] }, {}, { tk := [31] }] [] [1, 4, 5, 19, 20, 21] [4, 5] [] ⟨[(1, (.v (.func 154 []), [])), (4, (.ptr 4 0, [])), (5, (.ptr 5 0, [])), (19, (.v (.sl (List.map GTerm.c c289_.gKids)), [])), (20, (.v (.int .i64 (c289_.gKids.length : Int)), [])), (21, (.v (.int .i64 b291_), []))], [(4, .cells [.int .i64 0, .str (bs []), .int .i64 0, .sl (List.map GTerm.c [])] [(3, .app 42)]), (5, .cells [.int .i64 c292_.gKind, .str c292_.gName, .int .i64 c292_.gNum, .sl (List.map GTerm.c (c292_.gKids ++ [c295_]))] [(3, .app 42)])], []⟩ _ (by kernel_rfl) (fun X => by kernel_rfl) (.cons (ih_pimpl_renamed_on1_pimpl_copyTerm_1 h260) (.cons (cl_cons (c := GTerm.c) (x := c295_) (GTerm.c_eq c295_) (cl_nil GTerm.c)) (.cons (app_re2 GTerm.c c292_.gKids [c295_]) (.cons (app_leaf (c := GTerm.c) (ys := [c295_]) GTerm.c_leaf) (.cons (app_obl2 (c := GTerm.c) (xs := c292_.gKids) (ys := [c295_]) GTerm.c_len h261) .nil))))) ?_
              refine Wc.region [] [] [1, 4, 5, 19, 20, 21] [4, 5] [] ⟨[(1, (.v (.func 154 []), [])), (4, (.ptr 4 0, [])), (5, (.ptr 5 0, [])), (19, (.v (.sl (List.map GTerm.c c289_.gKids)), [])), (20, (.v (.int .i64 (c289_.gKids.length : Int)), [])), (21, (.v (.int .i64 (wr.i64 (b291_ + 1))), []))], [(4, .cells [.int .i64 0, .str (bs []), .int .i64 0, .sl (List.map GTerm.c [])] [(3, .app 42)]), (5, .cells [.int .i64 c292_.gKind, .str c292_.gName, .int .i64 c292_.gNum, .sl (List.map GTerm.c (c292_.gKids ++ [c295_]))] [(3, .app 42)])], []⟩ _ (by kernel_rfl) .nil ?_
              exact ⟨_, Nat.lt_succ_self _, _, _, rfl, h257⟩
            · refine Wc.condF h258 (by kernel_rfl) ?_
              refine Wc.fix (st' := ⟨[(4, (.ptr 4 0, [])), (5, (.ptr 5 0, []))], [(4, .cells [.int .i64 0, .str (bs []), .int .i64 0, .sl (List.map GTerm.c [])] [(3, .app 42)]), (5, .cells [.int .i64 c292_.gKind, .str c292_.gName, .int .i64 c292_.gNum, .sl (List.map GTerm.c c292_.gKids)] [(3, .app 42)])], []⟩) [] [4, 5] [4, 5] [] (by kernel_rfl) ?_
              refine Wc.exit ?_
              obtain rfl := Option.some.inj h257
              exact ⟨_, rfl, rfl⟩
        · rintro st ⟨c293_, rfl, rfl⟩
          refine Wc.seq ?_
          refine Wc.region [{ md := 1 }, { tk := [34] }] [] [4] [4] [] ⟨[(4, (.ptr 4 0, []))], [(4, .cells [.int .i64 c293_.gKind, .str c293_.gName, .int .i64 c293_.gNum, .sl (List.map GTerm.c c293_.gKids)] [(3, .app 42)])], []⟩ _ (by kernel_rfl) .nil ?_
          refine Wc.ret ?_
          obtain rfl := Option.some.inj h
          exact ⟨.inl rfl, by kernel_rfl, by kernel_rfl⟩
theorem cimpl_renamed_on1_pimpl_copyTerm_1 {k : Nat} {c289_ : GTerm} {r : GTerm} (h : pimpl_renamed_on1_pimpl_copyTerm_1 k c289_ = some r) : FnO Try.prog 153 [.v (.agg [.int .i64 c289_.gKind, .str c289_.gName, .int .i64 c289_.gNum, .sl (List.map GTerm.c c289_.gKids)]) [], .v (.func 154 []) []] (.v (.agg [.int .i64 r.gKind, .str r.gName, .int .i64 r.gNum, .sl (List.map GTerm.c r.gKids)]) [(3, .app 42)]) [] := (all_pimpl_renamed_on1_pimpl_copyTerm_1 k) h

/-- impl.copyTerm -/
def pimpl_copyTerm (k : Nat) (c282_ : GTerm) : Option GTerm :=
  (pimpl_renamed_on1_pimpl_copyTerm_1 k c282_).bind fun c283_ =>
  some c283_
theorem cimpl_copyTerm {k : Nat} {c282_ : GTerm} {r : GTerm} (h : pimpl_copyTerm k c282_ = some r) : FnO Try.prog 136 [.v (.agg [.int .i64 c282_.gKind, .str c282_.gName, .int .i64 c282_.gNum, .sl (List.map GTerm.c c282_.gKids)]) []] (.v (.agg [.int .i64 r.gKind, .str r.gName, .int .i64 r.gNum, .sl (List.map GTerm.c r.gKids)]) [(3, .app 42)]) [] := by
  refine FnO.of Try.func136 (rfl : Try.f136.body = some _) (Nat.le_of_ble_eq_true (by kernel_rfl)) (Nat.le_of_ble_eq_true (by kernel_rfl)) ?_
  intro w0 X0 Fin pv0 pb
  unfold pimpl_copyTerm at h
  refine Wc.seq ?_
  refine Wc.region [] [] [1, 2] [1, 2] [] ⟨[(1, (.ptr 1 0, [])), (2, (.ptr 2 0, []))], [(1, .cells [.int .i64 c282_.gKind, .str c282_.gName, .int .i64 c282_.gNum, .sl (List.map GTerm.c c282_.gKids)] []), (2, .cells [.int .i64 0, .str (bs []), .int .i64 0, .sl (List.map GTerm.c [])] [(3, .app 42)])], []⟩ _ (by kernel_rfl) .nil ?_
  refine Wc.seq ?_
  obtain ⟨c283_, h251, h⟩ := obind h
  refine Wc.region [{}, { r := some (.v (.agg [.int .i64 c283_.gKind, .str c283_.gName, .int .i64 c283_.gNum, .sl (List.map GTerm.c c283_.gKids)]) [(3, .app 42)]) }, { tk := [4] }] [] [2] [2] [] ⟨[(2, (.ptr 2 0, []))], [(2, .cells [.int .i64 c283_.gKind, .str c283_.gName, .int .i64 c283_.gNum, .sl (List.map GTerm.c c283_.gKids)] [(3, .app 42)])], []⟩ _ (by kernel_rfl) (.cons (cimpl_renamed_on1_pimpl_copyTerm_1 h251) .nil) ?_
  refine Wc.ret ?_
  obtain rfl := Option.some.inj h
  exact ⟨.inl rfl, by kernel_rfl, by kernel_rfl⟩

/-- impl.copyClause -/
def pimpl_copyClause (k : Nat) (e287_ : GClause) : Option GClause :=
  (pimpl_copyTerm k e287_.gHead).bind fun c288_ =>
  (pimpl_copyTerm k e287_.gBody).bind fun c289_ =>
  some (GClause.mk c288_ c289_ e287_.gFile)
theorem cimpl_copyClause {k : Nat} {e287_ : GClause} {r : GClause} (h : pimpl_copyClause k e287_ = some r) : FnO Try.prog 98 [.v (.agg [.int .i64 e287_.gHead.gKind, .str e287_.gHead.gName, .int .i64 e287_.gHead.gNum, .sl (List.map GTerm.c e287_.gHead.gKids), .int .i64 e287_.gBody.gKind, .str e287_.gBody.gName, .int .i64 e287_.gBody.gNum, .sl (List.map GTerm.c e287_.gBody.gKids), .str e287_.gFile]) []] (.v (.agg [.int .i64 r.gHead.gKind, .str r.gHead.gName, .int .i64 r.gHead.gNum, .sl (List.map GTerm.c r.gHead.gKids), .int .i64 r.gBody.gKind, .str r.gBody.gName, .int .i64 r.gBody.gNum, .sl (List.map GTerm.c r.gBody.gKids), .str r.gFile]) [(3, .app 42), (7, .app 42)]) [] := by
  refine FnO.of Try.func98 (rfl : Try.f98.body = some _) (Nat.le_of_ble_eq_true (by kernel_rfl)) (Nat.le_of_ble_eq_true (by kernel_rfl)) ?_
  intro w0 X0 Fin pv0 pb
  unfold pimpl_copyClause at h
  refine Wc.seq ?_
  refine Wc.region [] [] [1, 2] [1, 2] [] ⟨[(1, (.ptr 1 0, [])), (2, (.ptr 2 0, []))], [(1, .cells [.int .i64 e287_.gHead.gKind, .str e287_.gHead.gName, .int .i64 e287_.gHead.gNum, .sl (List.map GTerm.c e287_.gHead.gKids), .int .i64 e287_.gBody.gKind, .str e287_.gBody.gName, .int .i64 e287_.gBody.gNum, .sl (List.map GTerm.c e287_.gBody.gKids), .str e287_.gFile] []), (2, .cells [.int .i64 0, .str (bs []), .int .i64 0, .sl (List.map GTerm.c []), .int .i64 0, .str (bs []), .int .i64 0, .sl (List.map GTerm.c []), .str (bs [])] [(3, .app 42), (7, .app 42)])], []⟩ _ (by kernel_rfl) .nil ?_
  refine Wc.seq ?_
  obtain ⟨c288_, h254, h⟩ := obind h
  obtain ⟨c289_, h255, h⟩ := obind h
  refine Wc.draw hmix [{}, {}, { r := some (.v (.agg [.int .i64 c288_.gKind, .str c288_.gName, .int .i64 c288_.gNum, .sl (List.map GTerm.c c288_.gKids)]) [(3, .app 42)]) }, {}, {}, { r := some (.v (.agg [.int .i64 c289_.gKind, .str c289_.gName, .int .i64 c289_.gNum, .sl (List.map GTerm.c c289_.gKids)]) [(3, .app 42)]) }, {}, {}, { tk := [5, 8] }, { tk := [11] }] [] [2] [2] [] ⟨[(2, (.ptr 2 0, []))], [(2, .cells [.int .i64 c288_.gKind, .str c288_.gName, .int .i64 c288_.gNum, .sl (List.map GTerm.c c288_.gKids), .int .i64 c289_.gKind, .str c289_.gName, .int .i64 c289_.gNum, .sl (List.map GTerm.c c289_.gKids), .str e287_.gFile] [(3, .app 42), (7, .app 42)])], []⟩ _ (by kernel_rfl) (fun X => by kernel_rfl) (.cons (cimpl_copyTerm h254) (.cons (cimpl_copyTerm h255) .nil)) ?_
  refine Wc.ret ?_
  obtain rfl := Option.some.inj h
  exact ⟨.inl rfl, by kernel_rfl, by kernel_rfl⟩

def pimpl_DbOf_L1 (k : Nat) (t296_ : GStore) : Nat → Int → GDb → Option (Out GDb GDb)
  | 0, _, _ => none
  | m + 1, b297_, j298_ =>
    if (decide (b297_ < (t296_.gList.length : Int))) = true then
      (at' t296_.gList b297_).bind fun r300_ =>
      if (r300_.gDied == 0) = true then
        (pimpl_copyClause k r300_.gClause).bind fun e301_ =>
        if j298_.gClauses.length + [e301_].length ≤ 1073741824 then
          pimpl_DbOf_L1 k t296_ m (wr.i64 (b297_ + 1)) (GDb.mk (j298_.gClauses ++ [e301_]) j298_.gOpen)
        else none
      else
        pimpl_DbOf_L1 k t296_ m (wr.i64 (b297_ + 1)) j298_
    else
      some (.done j298_)
/-- impl.DbOf -/
def pimpl_DbOf (k : Nat) (t296_ : GStore) : Option GDb :=
  if ([] : List ByteArray).length + t296_.gOpen.length ≤ 1073741824 then
    (pimpl_DbOf_L1 k t296_ k 0 (GDb.mk [] t296_.gOpen)).bind fun out1 => match out1 with
    | .ret r => some r
    | .done j299_ =>
      some j299_
  else none
theorem cimpl_DbOf {k : Nat} {t296_ : GStore} {r : GDb} (h : pimpl_DbOf k t296_ = some r) : FnO Try.prog 42 [.v (.agg [.sl (List.map GKept.c t296_.gList), .sl (List.map cS t296_.gOpen), .int .i64 t296_.gNow]) []] (.v (.agg [.sl (List.map GClause.c r.gClauses), .sl (List.map cS r.gOpen)]) [(0, .app 66), (1, .app 9)]) [] := by
  refine FnO.of Try.func42 (rfl : Try.f42.body = some _) (Nat.le_of_ble_eq_true (by kernel_rfl)) (Nat.le_of_ble_eq_true (by kernel_rfl)) ?_
  intro w0 X0 Fin pv0 pb
  unfold pimpl_DbOf at h
  refine Wc.seq ?_
  refine Wc.region [] [] [1, 2] [1, 2] [] ⟨[(1, (.ptr 1 0, [])), (2, (.ptr 2 0, []))], [(1, .cells [.sl (List.map GKept.c t296_.gList), .sl (List.map cS t296_.gOpen), .int .i64 t296_.gNow] []), (2, .cells [.sl (List.map GClause.c []), .sl (List.map cS [])] [(0, .app 66), (1, .app 9)])], []⟩ _ (by kernel_rfl) .nil ?_
  refine Wc.seq ?_
  obtain ⟨h263, h⟩ := oguard h
  refine Wc.region [{}, {}, { c := some (List.map cS t296_.gOpen) }, { tk := [8] }, {}, { tk := [9] }] [] [1, 2, 3] [1, 2, 3] [] ⟨[(1, (.ptr 1 0, [])), (2, (.ptr 2 0, [])), (3, (.ptr 3 0, []))], [(1, .cells [.sl (List.map GKept.c t296_.gList), .sl (List.map cS t296_.gOpen), .int .i64 t296_.gNow] []), (2, .cells [.sl (List.map GClause.c []), .sl (List.map cS [])] [(0, .app 66), (1, .app 9)]), (3, .cells [.sl (List.map GClause.c []), .sl (List.map cS t296_.gOpen)] [(0, .app 66), (1, .app 9)])], []⟩ _ (by kernel_rfl) (.cons (app_re0 cS t296_.gOpen) (.cons (app_leaf (c := cS) (ys := t296_.gOpen) cS_leaf) (.cons (app_obl2 (c := cS) (xs := []) (ys := t296_.gOpen) cS_len h263) .nil))) ?_
  refine Wc.seq ?_
  refine Wc.seq ?_
  refine Wc.region [{}, {}, { v := some (.int .i64 (t296_.gList.length : Int)) }] [] [2, 3, 11, 12, 13] [2, 3] [] ⟨[(2, (.ptr 2 0, [])), (3, (.ptr 3 0, [])), (11, (.v (.sl (List.map GKept.c t296_.gList)), [])), (12, (.v (.int .i64 (t296_.gList.length : Int)), [])), (13, (.v (.int .i64 0), []))], [(2, .cells [.sl (List.map GClause.c []), .sl (List.map cS [])] [(0, .app 66), (1, .app 9)]), (3, .cells [.sl (List.map GClause.c []), .sl (List.map cS t296_.gOpen)] [(0, .app 66), (1, .app 9)])], []⟩ _ (by kernel_rfl) (.cons (len_obl GKept.c t296_.gList) .nil) ?_
  obtain ⟨out1, h264, h⟩ := obind h
  refine Wc.lastJ (fun st => ∃ (j299_ : GDb), out1 = .done j299_ ∧ st = ⟨[(2, (.ptr 2 0, [])), (3, (.ptr 3 0, []))], [(2, .cells [.sl (List.map GClause.c []), .sl (List.map cS [])] [(0, .app 66), (1, .app 9)]), (3, .cells [.sl (List.map GClause.c j299_.gClauses), .sl (List.map cS j299_.gOpen)] [(0, .app 66), (1, .app 9)])], []⟩) ?_ ?_
  · refine Wc.block ?_
    refine Wc.loop (fun m st => ∃ (b297_ : Int) (j298_ : GDb), st = ⟨[(2, (.ptr 2 0, [])), (3, (.ptr 3 0, [])), (11, (.v (.sl (List.map GKept.c t296_.gList)), [])), (12, (.v (.int .i64 (t296_.gList.length : Int)), [])), (13, (.v (.int .i64 b297_), []))], [(2, .cells [.sl (List.map GClause.c []), .sl (List.map cS [])] [(0, .app 66), (1, .app 9)]), (3, .cells [.sl (List.map GClause.c j298_.gClauses), .sl (List.map cS j298_.gOpen)] [(0, .app 66), (1, .app 9)])], []⟩ ∧ pimpl_DbOf_L1 k t296_ m b297_ j298_ = some out1) ?_ k ⟨_, _, rfl, h264⟩
    rintro m st ⟨b297_, j298_, rfl, h264⟩
    cases m with
    | zero => exact (onone h264).elim
    | succ m =>
      refine Wc.seq ?_
      refine Wc.region [] [] [2, 3, 11, 12, 13, 14] [2, 3] [] ⟨[(2, (.ptr 2 0, [])), (3, (.ptr 3 0, [])), (11, (.v (.sl (List.map GKept.c t296_.gList)), [])), (12, (.v (.int .i64 (t296_.gList.length : Int)), [])), (13, (.v (.int .i64 b297_), [])), (14, (.v (.bool (decide (b297_ < (t296_.gList.length : Int)))), []))], [(2, .cells [.sl (List.map GClause.c []), .sl (List.map cS [])] [(0, .app 66), (1, .app 9)]), (3, .cells [.sl (List.map GClause.c j298_.gClauses), .sl (List.map cS j298_.gOpen)] [(0, .app 66), (1, .app 9)])], []⟩ _ (by kernel_rfl) .nil ?_
      refine Wc.seq ?_
      rcases oif h264 with ⟨h265, h264⟩ | ⟨h265, h264⟩
      · refine Wc.condT h265 (by kernel_rfl) ?_
        refine Wc.fix (st' := ⟨[(2, (.ptr 2 0, [])), (3, (.ptr 3 0, [])), (11, (.v (.sl (List.map GKept.c t296_.gList)), [])), (12, (.v (.int .i64 (t296_.gList.length : Int)), [])), (13, (.v (.int .i64 b297_), []))], [(2, .cells [.sl (List.map GClause.c []), .sl (List.map cS [])] [(0, .app 66), (1, .app 9)]), (3, .cells [.sl (List.map GClause.c j298_.gClauses), .sl (List.map cS j298_.gOpen)] [(0, .app 66), (1, .app 9)])], []⟩) [] [2, 3, 11, 12, 13] [2, 3] [] (by kernel_rfl) ?_
        refine Wc.skip ?_
        refine Wc.seq ?_
        refine Wc.block ?_
        refine Wc.seq ?_
        obtain ⟨r300_, h266, h264⟩ := obind h264
        refine Wc.region [{ v := some (.vptr [.int .i64 r300_.gClause.gHead.gKind, .str r300_.gClause.gHead.gName, .int .i64 r300_.gClause.gHead.gNum, .sl (List.map GTerm.c r300_.gClause.gHead.gKids), .int .i64 r300_.gClause.gBody.gKind, .str r300_.gClause.gBody.gName, .int .i64 r300_.gClause.gBody.gNum, .sl (List.map GTerm.c r300_.gClause.gBody.gKids), .str r300_.gClause.gFile, .sl (List.map GIns.c r300_.gCode.gHead), .sl (List.map GIns.c r300_.gCode.gBody), .int .i64 r300_.gCode.gVars, .int .i64 r300_.gBorn, .int .i64 r300_.gDied]) }] [] [2, 3, 5, 11, 12, 13] [2, 3, 5] [] ⟨[(2, (.ptr 2 0, [])), (3, (.ptr 3 0, [])), (5, (.ptr 5 0, [])), (11, (.v (.sl (List.map GKept.c t296_.gList)), [])), (12, (.v (.int .i64 (t296_.gList.length : Int)), [])), (13, (.v (.int .i64 b297_), []))], [(2, .cells [.sl (List.map GClause.c []), .sl (List.map cS [])] [(0, .app 66), (1, .app 9)]), (3, .cells [.sl (List.map GClause.c j298_.gClauses), .sl (List.map cS j298_.gOpen)] [(0, .app 66), (1, .app 9)]), (5, .cells [.int .i64 r300_.gClause.gHead.gKind, .str r300_.gClause.gHead.gName, .int .i64 r300_.gClause.gHead.gNum, .sl (List.map GTerm.c r300_.gClause.gHead.gKids), .int .i64 r300_.gClause.gBody.gKind, .str r300_.gClause.gBody.gName, .int .i64 r300_.gClause.gBody.gNum, .sl (List.map GTerm.c r300_.gClause.gBody.gKids), .str r300_.gClause.gFile, .sl (List.map GIns.c r300_.gCode.gHead), .sl (List.map GIns.c r300_.gCode.gBody), .int .i64 r300_.gCode.gVars, .int .i64 r300_.gBorn, .int .i64 r300_.gDied] [])], []⟩ _ (by kernel_rfl) (.cons (at_obl (c := GKept.c) (GKept.c_eq r300_) GKept.c_len h266) (.cons (len_ok 14 [.int .i64 r300_.gClause.gHead.gKind, .str r300_.gClause.gHead.gName, .int .i64 r300_.gClause.gHead.gNum, .sl (List.map GTerm.c r300_.gClause.gHead.gKids), .int .i64 r300_.gClause.gBody.gKind, .str r300_.gClause.gBody.gName, .int .i64 r300_.gClause.gBody.gNum, .sl (List.map GTerm.c r300_.gClause.gBody.gKids), .str r300_.gClause.gFile, .sl (List.map GIns.c r300_.gCode.gHead), .sl (List.map GIns.c r300_.gCode.gBody), .int .i64 r300_.gCode.gVars, .int .i64 r300_.gBorn, .int .i64 r300_.gDied]) .nil)) ?_
        refine Wc.seq ?_
        refine Wc.region [] [] [2, 3, 5, 11, 12, 13, 19] [2, 3, 5] [] ⟨[(2, (.ptr 2 0, [])), (3, (.ptr 3 0, [])), (5, (.ptr 5 0, [])), (11, (.v (.sl (List.map GKept.c t296_.gList)), [])), (12, (.v (.int .i64 (t296_.gList.length : Int)), [])), (13, (.v (.int .i64 b297_), [])), (19, (.v (.bool (r300_.gDied == 0)), []))], [(2, .cells [.sl (List.map GClause.c []), .sl (List.map cS [])] [(0, .app 66), (1, .app 9)]), (3, .cells [.sl (List.map GClause.c j298_.gClauses), .sl (List.map cS j298_.gOpen)] [(0, .app 66), (1, .app 9)]), (5, .cells [.int .i64 r300_.gClause.gHead.gKind, .str r300_.gClause.gHead.gName, .int .i64 r300_.gClause.gHead.gNum, .sl (List.map GTerm.c r300_.gClause.gHead.gKids), .int .i64 r300_.gClause.gBody.gKind, .str r300_.gClause.gBody.gName, .int .i64 r300_.gClause.gBody.gNum, .sl (List.map GTerm.c r300_.gClause.gBody.gKids), .str r300_.gClause.gFile, .sl (List.map GIns.c r300_.gCode.gHead), .sl (List.map GIns.c r300_.gCode.gBody), .int .i64 r300_.gCode.gVars, .int .i64 r300_.gBorn, .int .i64 r300_.gDied] [])], []⟩ _ (by kernel_rfl) .nil ?_
        rcases oif h264 with ⟨h267, h264⟩ | ⟨h267, h264⟩
        · refine Wc.condT h267 (by kernel_rfl) ?_
          obtain ⟨e301_, h268, h264⟩ := obind h264
          obtain ⟨h269, h264⟩ := oguard h264
          refine Wc.draw hmix [{}, { md := 1 }, {}, {}, { r := some (.v (.agg [.int .i64 e301_.gHead.gKind, .str e301_.gHead.gName, .int .i64 e301_.gHead.gNum, .sl (List.map GTerm.c e301_.gHead.gKids), .int .i64 e301_.gBody.gKind, .str e301_.gBody.gName, .int .i64 e301_.gBody.gNum, .sl (List.map GTerm.c e301_.gBody.gKids), .str e301_.gFile]) [(3, .app 42), (7, .app 42)]) }, { c := some (List.map GClause.c [e301_]) }, { c := some (List.map GClause.c (j298_.gClauses ++ [e301_])), tk := [21] }, {}, { tk := [26] }] [.so 3] [2, 3, 11, 12, 13] [2, 3] [] ⟨[(2, (.ptr 2 0, [])), (3, (.ptr 3 0, [])), (11, (.v (.sl (List.map GKept.c t296_.gList)), [])), (12, (.v (.int .i64 (t296_.gList.length : Int)), [])), (13, (.v (.int .i64 b297_), []))], [(2, .cells [.sl (List.map GClause.c []), .sl (List.map cS [])] [(0, .app 66), (1, .app 9)]), (3, .cells [.sl (List.map GClause.c (j298_.gClauses ++ [e301_])), .sl (List.map cS j298_.gOpen)] [(0, .app 66), (1, .app 9)])], []⟩ _ (by kernel_rfl) (fun X => by kernel_rfl) (.cons (cimpl_copyClause h268) (.cons (cl_cons (c := GClause.c) (x := e301_) (GClause.c_eq e301_) (cl_nil GClause.c)) (.cons (app_re2 GClause.c j298_.gClauses [e301_]) (.cons (app_leaf (c := GClause.c) (ys := [e301_]) GClause.c_leaf) (.cons (app_obl2 (c := GClause.c) (xs := j298_.gClauses) (ys := [e301_]) GClause.c_len h269) .nil))))) ?_
          refine Wc.region [] [] [2, 3, 11, 12, 13] [2, 3] [] ⟨[(2, (.ptr 2 0, [])), (3, (.ptr 3 0, [])), (11, (.v (.sl (List.map GKept.c t296_.gList)), [])), (12, (.v (.int .i64 (t296_.gList.length : Int)), [])), (13, (.v (.int .i64 (wr.i64 (b297_ + 1))), []))], [(2, .cells [.sl (List.map GClause.c []), .sl (List.map cS [])] [(0, .app 66), (1, .app 9)]), (3, .cells [.sl (List.map GClause.c (j298_.gClauses ++ [e301_])), .sl (List.map cS j298_.gOpen)] [(0, .app 66), (1, .app 9)])], []⟩ _ (by kernel_rfl) .nil ?_
          exact ⟨_, Nat.lt_succ_self _, _, _, rfl, h264⟩
        · refine Wc.condF h267 (by kernel_rfl) ?_
          refine Wc.fix (st' := ⟨[(2, (.ptr 2 0, [])), (3, (.ptr 3 0, [])), (11, (.v (.sl (List.map GKept.c t296_.gList)), [])), (12, (.v (.int .i64 (t296_.gList.length : Int)), [])), (13, (.v (.int .i64 b297_), []))], [(2, .cells [.sl (List.map GClause.c []), .sl (List.map cS [])] [(0, .app 66), (1, .app 9)]), (3, .cells [.sl (List.map GClause.c j298_.gClauses), .sl (List.map cS j298_.gOpen)] [(0, .app 66), (1, .app 9)])], []⟩) [] [2, 3, 11, 12, 13] [2, 3] [] (by kernel_rfl) ?_
          refine Wc.skip ?_
          refine Wc.region [] [] [2, 3, 11, 12, 13] [2, 3] [] ⟨[(2, (.ptr 2 0, [])), (3, (.ptr 3 0, [])), (11, (.v (.sl (List.map GKept.c t296_.gList)), [])), (12, (.v (.int .i64 (t296_.gList.length : Int)), [])), (13, (.v (.int .i64 (wr.i64 (b297_ + 1))), []))], [(2, .cells [.sl (List.map GClause.c []), .sl (List.map cS [])] [(0, .app 66), (1, .app 9)]), (3, .cells [.sl (List.map GClause.c j298_.gClauses), .sl (List.map cS j298_.gOpen)] [(0, .app 66), (1, .app 9)])], []⟩ _ (by kernel_rfl) .nil ?_
          exact ⟨_, Nat.lt_succ_self _, _, _, rfl, h264⟩
      · refine Wc.condF h265 (by kernel_rfl) ?_
        refine Wc.fix (st' := ⟨[(2, (.ptr 2 0, [])), (3, (.ptr 3 0, []))], [(2, .cells [.sl (List.map GClause.c []), .sl (List.map cS [])] [(0, .app 66), (1, .app 9)]), (3, .cells [.sl (List.map GClause.c j298_.gClauses), .sl (List.map cS j298_.gOpen)] [(0, .app 66), (1, .app 9)])], []⟩) [] [2, 3] [2, 3] [] (by kernel_rfl) ?_
        refine Wc.exit ?_
        obtain rfl := Option.some.inj h264
        exact ⟨_, rfl, rfl⟩
  · rintro st ⟨j299_, rfl, rfl⟩
    refine Wc.seq ?_
    refine Wc.region [{ md := 1 }, { tk := [29] }] [] [2] [2] [] ⟨[(2, (.ptr 2 0, []))], [(2, .cells [.sl (List.map GClause.c j299_.gClauses), .sl (List.map cS j299_.gOpen)] [(0, .app 66), (1, .app 9)])], []⟩ _ (by kernel_rfl) .nil ?_
    refine Wc.ret ?_
    obtain rfl := Option.some.inj h
    exact ⟨.inl rfl, by kernel_rfl, by kernel_rfl⟩

/-- laws.eqIns -/
def plaws_eqIns (k : Nat) (o302_ : GIns) (o303_ : GIns) : Option Bool :=
  if (o302_.gOp != o303_.gOp) = true then
    some false
  else
    if (!(sEq o302_.gName o303_.gName)) = true then
      some false
    else
      if (o302_.gNum != o303_.gNum) = true then
        some false
      else
        if (o302_.gMany != o303_.gMany) = true then
          some false
        else
          some true
theorem claws_eqIns {k : Nat} {o302_ : GIns} {o303_ : GIns} {r : Bool} (h : plaws_eqIns k o302_ o303_ = some r) : FnO Try.prog 128 [.v (.agg [.int .i64 o302_.gOp, .str o302_.gName, .int .i64 o302_.gNum, .int .i64 o302_.gMany]) [], .v (.agg [.int .i64 o303_.gOp, .str o303_.gName, .int .i64 o303_.gNum, .int .i64 o303_.gMany]) []] (.v (.bool r) []) [] := by
  refine FnO.of Try.func128 (rfl : Try.f128.body = some _) (Nat.le_of_ble_eq_true (by kernel_rfl)) (Nat.le_of_ble_eq_true (by kernel_rfl)) ?_
  intro w0 X0 Fin pv0 pb
  unfold plaws_eqIns at h
  refine Wc.seq ?_
  refine Wc.region [] [] [2, 3] [2, 3] [] ⟨[(2, (.ptr 2 0, [])), (3, (.ptr 3 0, []))], [(2, .cells [.int .i64 o302_.gOp, .str o302_.gName, .int .i64 o302_.gNum, .int .i64 o302_.gMany] []), (3, .cells [.int .i64 o303_.gOp, .str o303_.gName, .int .i64 o303_.gNum, .int .i64 o303_.gMany] [])], []⟩ _ (by kernel_rfl) .nil ?_
  refine Wc.seq ?_
  refine Wc.seq ?_
  refine Wc.region [] [] [2, 3, 9] [2, 3] [] ⟨[(2, (.ptr 2 0, [])), (3, (.ptr 3 0, [])), (9, (.v (.bool (o302_.gOp != o303_.gOp)), []))], [(2, .cells [.int .i64 o302_.gOp, .str o302_.gName, .int .i64 o302_.gNum, .int .i64 o302_.gMany] []), (3, .cells [.int .i64 o303_.gOp, .str o303_.gName, .int .i64 o303_.gNum, .int .i64 o303_.gMany] [])], []⟩ _ (by kernel_rfl) .nil ?_
  rcases oif h with ⟨h270, h⟩ | ⟨h270, h⟩
  · refine Wc.condT h270 (by kernel_rfl) ?_
    refine Wc.seq ?_
    refine Wc.region [] [] [4] [] [] ⟨[(4, (.v (.bool false), []))], [], []⟩ _ (by kernel_rfl) .nil ?_
    refine Wc.ret ?_
    obtain rfl := Option.some.inj h
    exact ⟨.inl rfl, by kernel_rfl, by kernel_rfl⟩
  · refine Wc.condF h270 (by kernel_rfl) ?_
    refine Wc.fix (st' := ⟨[(2, (.ptr 2 0, [])), (3, (.ptr 3 0, []))], [(2, .cells [.int .i64 o302_.gOp, .str o302_.gName, .int .i64 o302_.gNum, .int .i64 o302_.gMany] []), (3, .cells [.int .i64 o303_.gOp, .str o303_.gName, .int .i64 o303_.gNum, .int .i64 o303_.gMany] [])], []⟩) [] [2, 3] [2, 3] [] (by kernel_rfl) ?_
    refine Wc.skip ?_
    refine Wc.seq ?_
    refine Wc.seq ?_
    refine Wc.region [] [] [2, 3, 14] [2, 3] [] ⟨[(2, (.ptr 2 0, [])), (3, (.ptr 3 0, [])), (14, (.v (.bool (!(sEq o302_.gName o303_.gName))), []))], [(2, .cells [.int .i64 o302_.gOp, .str o302_.gName, .int .i64 o302_.gNum, .int .i64 o302_.gMany] []), (3, .cells [.int .i64 o303_.gOp, .str o303_.gName, .int .i64 o303_.gNum, .int .i64 o303_.gMany] [])], []⟩ _ (by kernel_rfl) .nil ?_
    rcases oif h with ⟨h271, h⟩ | ⟨h271, h⟩
    · refine Wc.condT h271 (by kernel_rfl) ?_
      refine Wc.seq ?_
      refine Wc.region [] [] [4] [] [] ⟨[(4, (.v (.bool false), []))], [], []⟩ _ (by kernel_rfl) .nil ?_
      refine Wc.ret ?_
      obtain rfl := Option.some.inj h
      exact ⟨.inl rfl, by kernel_rfl, by kernel_rfl⟩
    · refine Wc.condF h271 (by kernel_rfl) ?_
      refine Wc.fix (st' := ⟨[(2, (.ptr 2 0, [])), (3, (.ptr 3 0, []))], [(2, .cells [.int .i64 o302_.gOp, .str o302_.gName, .int .i64 o302_.gNum, .int .i64 o302_.gMany] []), (3, .cells [.int .i64 o303_.gOp, .str o303_.gName, .int .i64 o303_.gNum, .int .i64 o303_.gMany] [])], []⟩) [] [2, 3] [2, 3] [] (by kernel_rfl) ?_
      refine Wc.skip ?_
      refine Wc.seq ?_
      refine Wc.seq ?_
      refine Wc.region [] [] [2, 3, 19] [2, 3] [] ⟨[(2, (.ptr 2 0, [])), (3, (.ptr 3 0, [])), (19, (.v (.bool (o302_.gNum != o303_.gNum)), []))], [(2, .cells [.int .i64 o302_.gOp, .str o302_.gName, .int .i64 o302_.gNum, .int .i64 o302_.gMany] []), (3, .cells [.int .i64 o303_.gOp, .str o303_.gName, .int .i64 o303_.gNum, .int .i64 o303_.gMany] [])], []⟩ _ (by kernel_rfl) .nil ?_
      rcases oif h with ⟨h272, h⟩ | ⟨h272, h⟩
      · refine Wc.condT h272 (by kernel_rfl) ?_
        refine Wc.seq ?_
        refine Wc.region [] [] [4] [] [] ⟨[(4, (.v (.bool false), []))], [], []⟩ _ (by kernel_rfl) .nil ?_
        refine Wc.ret ?_
        obtain rfl := Option.some.inj h
        exact ⟨.inl rfl, by kernel_rfl, by kernel_rfl⟩
      · refine Wc.condF h272 (by kernel_rfl) ?_
        refine Wc.fix (st' := ⟨[(2, (.ptr 2 0, [])), (3, (.ptr 3 0, []))], [(2, .cells [.int .i64 o302_.gOp, .str o302_.gName, .int .i64 o302_.gNum, .int .i64 o302_.gMany] []), (3, .cells [.int .i64 o303_.gOp, .str o303_.gName, .int .i64 o303_.gNum, .int .i64 o303_.gMany] [])], []⟩) [] [2, 3] [2, 3] [] (by kernel_rfl) ?_
        refine Wc.skip ?_
        refine Wc.seq ?_
        refine Wc.seq ?_
        refine Wc.region [] [] [24] [] [] ⟨[(24, (.v (.bool (o302_.gMany != o303_.gMany)), []))], [], []⟩ _ (by kernel_rfl) .nil ?_
        rcases oif h with ⟨h273, h⟩ | ⟨h273, h⟩
        · refine Wc.condT h273 (by kernel_rfl) ?_
          refine Wc.seq ?_
          refine Wc.region [] [] [4] [] [] ⟨[(4, (.v (.bool false), []))], [], []⟩ _ (by kernel_rfl) .nil ?_
          refine Wc.ret ?_
          obtain rfl := Option.some.inj h
          exact ⟨.inl rfl, by kernel_rfl, by kernel_rfl⟩
        · refine Wc.condF h273 (by kernel_rfl) ?_
          refine Wc.fix (st' := ⟨[], [], []⟩) [] [] [] [] (by kernel_rfl) ?_
          refine Wc.skip ?_
          refine Wc.seq ?_
          refine Wc.region [] [] [4] [] [] ⟨[(4, (.v (.bool true), []))], [], []⟩ _ (by kernel_rfl) .nil ?_
          refine Wc.ret ?_
          obtain rfl := Option.some.inj h
          exact ⟨.inl rfl, by kernel_rfl, by kernel_rfl⟩

def plaws_eqInsS_L1 (k : Nat) (p304_ : List GIns) (p305_ : List GIns) : Nat → Int → Option (Out Bool Unit)
  | 0, _ => none
  | m + 1, b306_ =>
    if (decide (b306_ < (p304_.length : Int))) = true then
      (at' p304_ b306_).bind fun o307_ =>
      (at' p305_ b306_).bind fun o308_ =>
      (plaws_eqIns k o307_ o308_).bind fun d309_ =>
      if (!d309_) = true then
        some (.ret false)
      else
        plaws_eqInsS_L1 k p304_ p305_ m (wr.i64 (b306_ + 1))
    else
      some (.done ())
/-- laws.eqInsS -/
def plaws_eqInsS (k : Nat) (p304_ : List GIns) (p305_ : List GIns) : Option Bool :=
  if ((p304_.length : Int) != (p305_.length : Int)) = true then
    some false
  else
    (plaws_eqInsS_L1 k p304_ p305_ k 0).bind fun out1 => match out1 with
    | .ret r => some r
    | .done () =>
      some true
theorem claws_eqInsS {k : Nat} {p304_ : List GIns} {p305_ : List GIns} {r : Bool} (h : plaws_eqInsS k p304_ p305_ = some r) : FnO Try.prog 84 [.v (.sl (List.map GIns.c p304_)) [], .v (.sl (List.map GIns.c p305_)) []] (.v (.bool r) []) [] := by
  refine FnO.of Try.func84 (rfl : Try.f84.body = some _) (Nat.le_of_ble_eq_true (by kernel_rfl)) (Nat.le_of_ble_eq_true (by kernel_rfl)) ?_
  intro w0 X0 Fin pv0 pb
  unfold plaws_eqInsS at h
  refine Wc.seq ?_
  refine Wc.region [] [] [0, 1] [] [] ⟨[(0, (.v (.sl (List.map GIns.c p304_)), [])), (1, (.v (.sl (List.map GIns.c p305_)), []))], [], []⟩ _ (by kernel_rfl) .nil ?_
  refine Wc.seq ?_
  refine Wc.seq ?_
  refine Wc.region [{}, { v := some (.int .i64 (p304_.length : Int)) }, {}, { v := some (.int .i64 (p305_.length : Int)) }] [] [0, 1, 10] [] [] ⟨[(0, (.v (.sl (List.map GIns.c p304_)), [])), (1, (.v (.sl (List.map GIns.c p305_)), [])), (10, (.v (.bool ((p304_.length : Int) != (p305_.length : Int))), []))], [], []⟩ _ (by kernel_rfl) (.cons (len_obl GIns.c p304_) (.cons (len_obl GIns.c p305_) .nil)) ?_
  rcases oif h with ⟨h274, h⟩ | ⟨h274, h⟩
  · refine Wc.condT h274 (by kernel_rfl) ?_
    refine Wc.seq ?_
    refine Wc.region [] [] [4] [] [] ⟨[(4, (.v (.bool false), []))], [], []⟩ _ (by kernel_rfl) .nil ?_
    refine Wc.ret ?_
    obtain rfl := Option.some.inj h
    exact ⟨.inl rfl, by kernel_rfl, by kernel_rfl⟩
  · refine Wc.condF h274 (by kernel_rfl) ?_
    refine Wc.fix (st' := ⟨[(0, (.v (.sl (List.map GIns.c p304_)), [])), (1, (.v (.sl (List.map GIns.c p305_)), []))], [], []⟩) [] [0, 1] [] [] (by kernel_rfl) ?_
    refine Wc.skip ?_
    refine Wc.seq ?_
    refine Wc.seq ?_
    refine Wc.region [] [] [0, 1, 5] [] [] ⟨[(0, (.v (.sl (List.map GIns.c p304_)), [])), (1, (.v (.sl (List.map GIns.c p305_)), [])), (5, (.v (.int .i64 0), []))], [], []⟩ _ (by kernel_rfl) .nil ?_
    obtain ⟨out1, h275, h⟩ := obind h
    refine Wc.lastJ (fun st => out1 = .done () ∧ st = ⟨[], [], []⟩) ?_ ?_
    · refine Wc.block ?_
      refine Wc.loop (fun m st => ∃ (b306_ : Int), st = ⟨[(0, (.v (.sl (List.map GIns.c p304_)), [])), (1, (.v (.sl (List.map GIns.c p305_)), [])), (5, (.v (.int .i64 b306_), []))], [], []⟩ ∧ plaws_eqInsS_L1 k p304_ p305_ m b306_ = some out1) ?_ k ⟨_, rfl, h275⟩
      rintro m st ⟨b306_, rfl, h275⟩
      cases m with
      | zero => exact (onone h275).elim
      | succ m =>
        refine Wc.seq ?_
        refine Wc.seq ?_
        refine Wc.region [{}, {}, { v := some (.int .i64 (p304_.length : Int)) }] [] [0, 1, 5, 14] [] [] ⟨[(0, (.v (.sl (List.map GIns.c p304_)), [])), (1, (.v (.sl (List.map GIns.c p305_)), [])), (5, (.v (.int .i64 b306_), [])), (14, (.v (.bool (decide (b306_ < (p304_.length : Int)))), []))], [], []⟩ _ (by kernel_rfl) (.cons (len_obl GIns.c p304_) .nil) ?_
        rcases oif h275 with ⟨h276, h275⟩ | ⟨h276, h275⟩
        · refine Wc.condT h276 (by kernel_rfl) ?_
          refine Wc.fix (st' := ⟨[(0, (.v (.sl (List.map GIns.c p304_)), [])), (1, (.v (.sl (List.map GIns.c p305_)), [])), (5, (.v (.int .i64 b306_), []))], [], []⟩) [] [0, 1, 5] [] [] (by kernel_rfl) ?_
          refine Wc.skip ?_
          refine Wc.seq ?_
          refine Wc.block ?_
          refine Wc.seq ?_
          obtain ⟨o307_, h277, h275⟩ := obind h275
          obtain ⟨o308_, h278, h275⟩ := obind h275
          obtain ⟨d309_, h279, h275⟩ := obind h275
          refine Wc.draw hmix [{}, {}, { v := some (.vptr [.int .i64 o307_.gOp, .str o307_.gName, .int .i64 o307_.gNum, .int .i64 o307_.gMany]) }, {}, {}, {}, { v := some (.vptr [.int .i64 o308_.gOp, .str o308_.gName, .int .i64 o308_.gNum, .int .i64 o308_.gMany]) }, {}, { r := some (.v (.bool d309_) []) }] [] [0, 1, 5, 26] [] [] ⟨[(0, (.v (.sl (List.map GIns.c p304_)), [])), (1, (.v (.sl (List.map GIns.c p305_)), [])), (5, (.v (.int .i64 b306_), [])), (26, (.v (.bool (!d309_)), []))], [], []⟩ _ (by kernel_rfl) (fun X => by kernel_rfl) (.cons (at_obl (c := GIns.c) (GIns.c_eq o307_) GIns.c_len h277) (.cons (len_ok 4 [.int .i64 o307_.gOp, .str o307_.gName, .int .i64 o307_.gNum, .int .i64 o307_.gMany]) (.cons (at_obl (c := GIns.c) (GIns.c_eq o308_) GIns.c_len h278) (.cons (len_ok 4 [.int .i64 o308_.gOp, .str o308_.gName, .int .i64 o308_.gNum, .int .i64 o308_.gMany]) (.cons (claws_eqIns h279) .nil))))) ?_
          rcases oif h275 with ⟨h280, h275⟩ | ⟨h280, h275⟩
          · refine Wc.condT h280 (by kernel_rfl) ?_
            refine Wc.seq ?_
            refine Wc.region [] [] [4] [] [] ⟨[(4, (.v (.bool false), []))], [], []⟩ _ (by kernel_rfl) .nil ?_
            refine Wc.ret ?_
            obtain rfl := Option.some.inj h275
            obtain rfl := Option.some.inj h
            exact ⟨.inl rfl, by kernel_rfl, by kernel_rfl⟩
          · refine Wc.condF h280 (by kernel_rfl) ?_
            refine Wc.fix (st' := ⟨[(0, (.v (.sl (List.map GIns.c p304_)), [])), (1, (.v (.sl (List.map GIns.c p305_)), [])), (5, (.v (.int .i64 b306_), []))], [], []⟩) [] [0, 1, 5] [] [] (by kernel_rfl) ?_
            refine Wc.skip ?_
            refine Wc.region [] [] [0, 1, 5] [] [] ⟨[(0, (.v (.sl (List.map GIns.c p304_)), [])), (1, (.v (.sl (List.map GIns.c p305_)), [])), (5, (.v (.int .i64 (wr.i64 (b306_ + 1))), []))], [], []⟩ _ (by kernel_rfl) .nil ?_
            exact ⟨_, Nat.lt_succ_self _, _, rfl, h275⟩
        · refine Wc.condF h276 (by kernel_rfl) ?_
          refine Wc.fix (st' := ⟨[], [], []⟩) [] [] [] [] (by kernel_rfl) ?_
          refine Wc.exit ?_
          obtain rfl := Option.some.inj h275
          exact ⟨rfl, rfl⟩
    · rintro st ⟨rfl, rfl⟩
      refine Wc.seq ?_
      refine Wc.region [] [] [4] [] [] ⟨[(4, (.v (.bool true), []))], [], []⟩ _ (by kernel_rfl) .nil ?_
      refine Wc.ret ?_
      obtain rfl := Option.some.inj h
      exact ⟨.inl rfl, by kernel_rfl, by kernel_rfl⟩

/-- laws.eqCode -/
def plaws_eqCode (k : Nat) (q310_ : GCode) (q311_ : GCode) : Option Bool :=
  (plaws_eqInsS k q310_.gHead q311_.gHead).bind fun d312_ =>
  if (!d312_) = true then
    some false
  else
    (plaws_eqInsS k q310_.gBody q311_.gBody).bind fun d313_ =>
    if (!d313_) = true then
      some false
    else
      if (q310_.gVars != q311_.gVars) = true then
        some false
      else
        some true
theorem claws_eqCode {k : Nat} {q310_ : GCode} {q311_ : GCode} {r : Bool} (h : plaws_eqCode k q310_ q311_ = some r) : FnO Try.prog 29 [.v (.agg [.sl (List.map GIns.c q310_.gHead), .sl (List.map GIns.c q310_.gBody), .int .i64 q310_.gVars]) [], .v (.agg [.sl (List.map GIns.c q311_.gHead), .sl (List.map GIns.c q311_.gBody), .int .i64 q311_.gVars]) []] (.v (.bool r) []) [] := by
  refine FnO.of Try.func29 (rfl : Try.f29.body = some _) (Nat.le_of_ble_eq_true (by kernel_rfl)) (Nat.le_of_ble_eq_true (by kernel_rfl)) ?_
  intro w0 X0 Fin pv0 pb
  unfold plaws_eqCode at h
  refine Wc.seq ?_
  refine Wc.region [] [] [2, 3] [2, 3] [] ⟨[(2, (.ptr 2 0, [])), (3, (.ptr 3 0, []))], [(2, .cells [.sl (List.map GIns.c q310_.gHead), .sl (List.map GIns.c q310_.gBody), .int .i64 q310_.gVars] []), (3, .cells [.sl (List.map GIns.c q311_.gHead), .sl (List.map GIns.c q311_.gBody), .int .i64 q311_.gVars] [])], []⟩ _ (by kernel_rfl) .nil ?_
  refine Wc.seq ?_
  refine Wc.seq ?_
  obtain ⟨d312_, h281, h⟩ := obind h
  refine Wc.region [{}, {}, {}, {}, { r := some (.v (.bool d312_) []) }] [] [2, 3, 10] [2, 3] [] ⟨[(2, (.ptr 2 0, [])), (3, (.ptr 3 0, [])), (10, (.v (.bool (!d312_)), []))], [(2, .cells [.sl (List.map GIns.c q310_.gHead), .sl (List.map GIns.c q310_.gBody), .int .i64 q310_.gVars] []), (3, .cells [.sl (List.map GIns.c q311_.gHead), .sl (List.map GIns.c q311_.gBody), .int .i64 q311_.gVars] [])], []⟩ _ (by kernel_rfl) (.cons (claws_eqInsS h281) .nil) ?_
  rcases oif h with ⟨h282, h⟩ | ⟨h282, h⟩
  · refine Wc.condT h282 (by kernel_rfl) ?_
    refine Wc.seq ?_
    refine Wc.region [] [] [4] [] [] ⟨[(4, (.v (.bool false), []))], [], []⟩ _ (by kernel_rfl) .nil ?_
    refine Wc.ret ?_
    obtain rfl := Option.some.inj h
    exact ⟨.inl rfl, by kernel_rfl, by kernel_rfl⟩
  · refine Wc.condF h282 (by kernel_rfl) ?_
    refine Wc.fix (st' := ⟨[(2, (.ptr 2 0, [])), (3, (.ptr 3 0, []))], [(2, .cells [.sl (List.map GIns.c q310_.gHead), .sl (List.map GIns.c q310_.gBody), .int .i64 q310_.gVars] []), (3, .cells [.sl (List.map GIns.c q311_.gHead), .sl (List.map GIns.c q311_.gBody), .int .i64 q311_.gVars] [])], []⟩) [] [2, 3] [2, 3] [] (by kernel_rfl) ?_
    refine Wc.skip ?_
    refine Wc.seq ?_
    refine Wc.seq ?_
    obtain ⟨d313_, h283, h⟩ := obind h
    refine Wc.region [{}, {}, {}, {}, { r := some (.v (.bool d313_) []) }] [] [2, 3, 16] [2, 3] [] ⟨[(2, (.ptr 2 0, [])), (3, (.ptr 3 0, [])), (16, (.v (.bool (!d313_)), []))], [(2, .cells [.sl (List.map GIns.c q310_.gHead), .sl (List.map GIns.c q310_.gBody), .int .i64 q310_.gVars] []), (3, .cells [.sl (List.map GIns.c q311_.gHead), .sl (List.map GIns.c q311_.gBody), .int .i64 q311_.gVars] [])], []⟩ _ (by kernel_rfl) (.cons (claws_eqInsS h283) .nil) ?_
    rcases oif h with ⟨h284, h⟩ | ⟨h284, h⟩
    · refine Wc.condT h284 (by kernel_rfl) ?_
      refine Wc.seq ?_
      refine Wc.region [] [] [4] [] [] ⟨[(4, (.v (.bool false), []))], [], []⟩ _ (by kernel_rfl) .nil ?_
      refine Wc.ret ?_
      obtain rfl := Option.some.inj h
      exact ⟨.inl rfl, by kernel_rfl, by kernel_rfl⟩
    · refine Wc.condF h284 (by kernel_rfl) ?_
      refine Wc.fix (st' := ⟨[(2, (.ptr 2 0, [])), (3, (.ptr 3 0, []))], [(2, .cells [.sl (List.map GIns.c q310_.gHead), .sl (List.map GIns.c q310_.gBody), .int .i64 q310_.gVars] []), (3, .cells [.sl (List.map GIns.c q311_.gHead), .sl (List.map GIns.c q311_.gBody), .int .i64 q311_.gVars] [])], []⟩) [] [2, 3] [2, 3] [] (by kernel_rfl) ?_
      refine Wc.skip ?_
      refine Wc.seq ?_
      refine Wc.seq ?_
      refine Wc.region [] [] [21] [] [] ⟨[(21, (.v (.bool (q310_.gVars != q311_.gVars)), []))], [], []⟩ _ (by kernel_rfl) .nil ?_
      rcases oif h with ⟨h285, h⟩ | ⟨h285, h⟩
      · refine Wc.condT h285 (by kernel_rfl) ?_
        refine Wc.seq ?_
        refine Wc.region [] [] [4] [] [] ⟨[(4, (.v (.bool false), []))], [], []⟩ _ (by kernel_rfl) .nil ?_
        refine Wc.ret ?_
        obtain rfl := Option.some.inj h
        exact ⟨.inl rfl, by kernel_rfl, by kernel_rfl⟩
      · refine Wc.condF h285 (by kernel_rfl) ?_
        refine Wc.fix (st' := ⟨[], [], []⟩) [] [] [] [] (by kernel_rfl) ?_
        refine Wc.skip ?_
        refine Wc.seq ?_
        refine Wc.region [] [] [4] [] [] ⟨[(4, (.v (.bool true), []))], [], []⟩ _ (by kernel_rfl) .nil ?_
        refine Wc.ret ?_
        obtain rfl := Option.some.inj h
        exact ⟨.inl rfl, by kernel_rfl, by kernel_rfl⟩

/-- laws.eqKept -/
def plaws_eqKept (k : Nat) (r314_ : GKept) (r315_ : GKept) : Option Bool :=
  (plaws_eqClause k r314_.gClause r315_.gClause).bind fun d316_ =>
  if (!d316_) = true then
    some false
  else
    (plaws_eqCode k r314_.gCode r315_.gCode).bind fun d317_ =>
    if (!d317_) = true then
      some false
    else
      if (r314_.gBorn != r315_.gBorn) = true then
        some false
      else
        if (r314_.gDied != r315_.gDied) = true then
          some false
        else
          some true
theorem claws_eqKept {k : Nat} {r314_ : GKept} {r315_ : GKept} {r : Bool} (h : plaws_eqKept k r314_ r315_ = some r) : FnO Try.prog 137 [.v (.agg [.int .i64 r314_.gClause.gHead.gKind, .str r314_.gClause.gHead.gName, .int .i64 r314_.gClause.gHead.gNum, .sl (List.map GTerm.c r314_.gClause.gHead.gKids), .int .i64 r314_.gClause.gBody.gKind, .str r314_.gClause.gBody.gName, .int .i64 r314_.gClause.gBody.gNum, .sl (List.map GTerm.c r314_.gClause.gBody.gKids), .str r314_.gClause.gFile, .sl (List.map GIns.c r314_.gCode.gHead), .sl (List.map GIns.c r314_.gCode.gBody), .int .i64 r314_.gCode.gVars, .int .i64 r314_.gBorn, .int .i64 r314_.gDied]) [], .v (.agg [.int .i64 r315_.gClause.gHead.gKind, .str r315_.gClause.gHead.gName, .int .i64 r315_.gClause.gHead.gNum, .sl (List.map GTerm.c r315_.gClause.gHead.gKids), .int .i64 r315_.gClause.gBody.gKind, .str r315_.gClause.gBody.gName, .int .i64 r315_.gClause.gBody.gNum, .sl (List.map GTerm.c r315_.gClause.gBody.gKids), .str r315_.gClause.gFile, .sl (List.map GIns.c r315_.gCode.gHead), .sl (List.map GIns.c r315_.gCode.gBody), .int .i64 r315_.gCode.gVars, .int .i64 r315_.gBorn, .int .i64 r315_.gDied]) []] (.v (.bool r) []) [] := by
  refine FnO.of Try.func137 (rfl : Try.f137.body = some _) (Nat.le_of_ble_eq_true (by kernel_rfl)) (Nat.le_of_ble_eq_true (by kernel_rfl)) ?_
  intro w0 X0 Fin pv0 pb
  unfold plaws_eqKept at h
  refine Wc.seq ?_
  refine Wc.region [] [] [2, 3] [2, 3] [] ⟨[(2, (.ptr 2 0, [])), (3, (.ptr 3 0, []))], [(2, .cells [.int .i64 r314_.gClause.gHead.gKind, .str r314_.gClause.gHead.gName, .int .i64 r314_.gClause.gHead.gNum, .sl (List.map GTerm.c r314_.gClause.gHead.gKids), .int .i64 r314_.gClause.gBody.gKind, .str r314_.gClause.gBody.gName, .int .i64 r314_.gClause.gBody.gNum, .sl (List.map GTerm.c r314_.gClause.gBody.gKids), .str r314_.gClause.gFile, .sl (List.map GIns.c r314_.gCode.gHead), .sl (List.map GIns.c r314_.gCode.gBody), .int .i64 r314_.gCode.gVars, .int .i64 r314_.gBorn, .int .i64 r314_.gDied] []), (3, .cells [.int .i64 r315_.gClause.gHead.gKind, .str r315_.gClause.gHead.gName, .int .i64 r315_.gClause.gHead.gNum, .sl (List.map GTerm.c r315_.gClause.gHead.gKids), .int .i64 r315_.gClause.gBody.gKind, .str r315_.gClause.gBody.gName, .int .i64 r315_.gClause.gBody.gNum, .sl (List.map GTerm.c r315_.gClause.gBody.gKids), .str r315_.gClause.gFile, .sl (List.map GIns.c r315_.gCode.gHead), .sl (List.map GIns.c r315_.gCode.gBody), .int .i64 r315_.gCode.gVars, .int .i64 r315_.gBorn, .int .i64 r315_.gDied] [])], []⟩ _ (by kernel_rfl) .nil ?_
  refine Wc.seq ?_
  refine Wc.seq ?_
  obtain ⟨d316_, h286, h⟩ := obind h
  refine Wc.region [{}, {}, {}, {}, { r := some (.v (.bool d316_) []) }] [] [2, 3, 10] [2, 3] [] ⟨[(2, (.ptr 2 0, [])), (3, (.ptr 3 0, [])), (10, (.v (.bool (!d316_)), []))], [(2, .cells [.int .i64 r314_.gClause.gHead.gKind, .str r314_.gClause.gHead.gName, .int .i64 r314_.gClause.gHead.gNum, .sl (List.map GTerm.c r314_.gClause.gHead.gKids), .int .i64 r314_.gClause.gBody.gKind, .str r314_.gClause.gBody.gName, .int .i64 r314_.gClause.gBody.gNum, .sl (List.map GTerm.c r314_.gClause.gBody.gKids), .str r314_.gClause.gFile, .sl (List.map GIns.c r314_.gCode.gHead), .sl (List.map GIns.c r314_.gCode.gBody), .int .i64 r314_.gCode.gVars, .int .i64 r314_.gBorn, .int .i64 r314_.gDied] []), (3, .cells [.int .i64 r315_.gClause.gHead.gKind, .str r315_.gClause.gHead.gName, .int .i64 r315_.gClause.gHead.gNum, .sl (List.map GTerm.c r315_.gClause.gHead.gKids), .int .i64 r315_.gClause.gBody.gKind, .str r315_.gClause.gBody.gName, .int .i64 r315_.gClause.gBody.gNum, .sl (List.map GTerm.c r315_.gClause.gBody.gKids), .str r315_.gClause.gFile, .sl (List.map GIns.c r315_.gCode.gHead), .sl (List.map GIns.c r315_.gCode.gBody), .int .i64 r315_.gCode.gVars, .int .i64 r315_.gBorn, .int .i64 r315_.gDied] [])], []⟩ _ (by kernel_rfl) (.cons (claws_eqClause h286) .nil) ?_
  rcases oif h with ⟨h287, h⟩ | ⟨h287, h⟩
  · refine Wc.condT h287 (by kernel_rfl) ?_
    refine Wc.seq ?_
    refine Wc.region [] [] [4] [] [] ⟨[(4, (.v (.bool false), []))], [], []⟩ _ (by kernel_rfl) .nil ?_
    refine Wc.ret ?_
    obtain rfl := Option.some.inj h
    exact ⟨.inl rfl, by kernel_rfl, by kernel_rfl⟩
  · refine Wc.condF h287 (by kernel_rfl) ?_
    refine Wc.fix (st' := ⟨[(2, (.ptr 2 0, [])), (3, (.ptr 3 0, []))], [(2, .cells [.int .i64 r314_.gClause.gHead.gKind, .str r314_.gClause.gHead.gName, .int .i64 r314_.gClause.gHead.gNum, .sl (List.map GTerm.c r314_.gClause.gHead.gKids), .int .i64 r314_.gClause.gBody.gKind, .str r314_.gClause.gBody.gName, .int .i64 r314_.gClause.gBody.gNum, .sl (List.map GTerm.c r314_.gClause.gBody.gKids), .str r314_.gClause.gFile, .sl (List.map GIns.c r314_.gCode.gHead), .sl (List.map GIns.c r314_.gCode.gBody), .int .i64 r314_.gCode.gVars, .int .i64 r314_.gBorn, .int .i64 r314_.gDied] []), (3, .cells [.int .i64 r315_.gClause.gHead.gKind, .str r315_.gClause.gHead.gName, .int .i64 r315_.gClause.gHead.gNum, .sl (List.map GTerm.c r315_.gClause.gHead.gKids), .int .i64 r315_.gClause.gBody.gKind, .str r315_.gClause.gBody.gName, .int .i64 r315_.gClause.gBody.gNum, .sl (List.map GTerm.c r315_.gClause.gBody.gKids), .str r315_.gClause.gFile, .sl (List.map GIns.c r315_.gCode.gHead), .sl (List.map GIns.c r315_.gCode.gBody), .int .i64 r315_.gCode.gVars, .int .i64 r315_.gBorn, .int .i64 r315_.gDied] [])], []⟩) [] [2, 3] [2, 3] [] (by kernel_rfl) ?_
    refine Wc.skip ?_
    refine Wc.seq ?_
    refine Wc.seq ?_
    obtain ⟨d317_, h288, h⟩ := obind h
    refine Wc.region [{}, {}, {}, {}, { r := some (.v (.bool d317_) []) }] [] [2, 3, 16] [2, 3] [] ⟨[(2, (.ptr 2 0, [])), (3, (.ptr 3 0, [])), (16, (.v (.bool (!d317_)), []))], [(2, .cells [.int .i64 r314_.gClause.gHead.gKind, .str r314_.gClause.gHead.gName, .int .i64 r314_.gClause.gHead.gNum, .sl (List.map GTerm.c r314_.gClause.gHead.gKids), .int .i64 r314_.gClause.gBody.gKind, .str r314_.gClause.gBody.gName, .int .i64 r314_.gClause.gBody.gNum, .sl (List.map GTerm.c r314_.gClause.gBody.gKids), .str r314_.gClause.gFile, .sl (List.map GIns.c r314_.gCode.gHead), .sl (List.map GIns.c r314_.gCode.gBody), .int .i64 r314_.gCode.gVars, .int .i64 r314_.gBorn, .int .i64 r314_.gDied] []), (3, .cells [.int .i64 r315_.gClause.gHead.gKind, .str r315_.gClause.gHead.gName, .int .i64 r315_.gClause.gHead.gNum, .sl (List.map GTerm.c r315_.gClause.gHead.gKids), .int .i64 r315_.gClause.gBody.gKind, .str r315_.gClause.gBody.gName, .int .i64 r315_.gClause.gBody.gNum, .sl (List.map GTerm.c r315_.gClause.gBody.gKids), .str r315_.gClause.gFile, .sl (List.map GIns.c r315_.gCode.gHead), .sl (List.map GIns.c r315_.gCode.gBody), .int .i64 r315_.gCode.gVars, .int .i64 r315_.gBorn, .int .i64 r315_.gDied] [])], []⟩ _ (by kernel_rfl) (.cons (claws_eqCode h288) .nil) ?_
    rcases oif h with ⟨h289, h⟩ | ⟨h289, h⟩
    · refine Wc.condT h289 (by kernel_rfl) ?_
      refine Wc.seq ?_
      refine Wc.region [] [] [4] [] [] ⟨[(4, (.v (.bool false), []))], [], []⟩ _ (by kernel_rfl) .nil ?_
      refine Wc.ret ?_
      obtain rfl := Option.some.inj h
      exact ⟨.inl rfl, by kernel_rfl, by kernel_rfl⟩
    · refine Wc.condF h289 (by kernel_rfl) ?_
      refine Wc.fix (st' := ⟨[(2, (.ptr 2 0, [])), (3, (.ptr 3 0, []))], [(2, .cells [.int .i64 r314_.gClause.gHead.gKind, .str r314_.gClause.gHead.gName, .int .i64 r314_.gClause.gHead.gNum, .sl (List.map GTerm.c r314_.gClause.gHead.gKids), .int .i64 r314_.gClause.gBody.gKind, .str r314_.gClause.gBody.gName, .int .i64 r314_.gClause.gBody.gNum, .sl (List.map GTerm.c r314_.gClause.gBody.gKids), .str r314_.gClause.gFile, .sl (List.map GIns.c r314_.gCode.gHead), .sl (List.map GIns.c r314_.gCode.gBody), .int .i64 r314_.gCode.gVars, .int .i64 r314_.gBorn, .int .i64 r314_.gDied] []), (3, .cells [.int .i64 r315_.gClause.gHead.gKind, .str r315_.gClause.gHead.gName, .int .i64 r315_.gClause.gHead.gNum, .sl (List.map GTerm.c r315_.gClause.gHead.gKids), .int .i64 r315_.gClause.gBody.gKind, .str r315_.gClause.gBody.gName, .int .i64 r315_.gClause.gBody.gNum, .sl (List.map GTerm.c r315_.gClause.gBody.gKids), .str r315_.gClause.gFile, .sl (List.map GIns.c r315_.gCode.gHead), .sl (List.map GIns.c r315_.gCode.gBody), .int .i64 r315_.gCode.gVars, .int .i64 r315_.gBorn, .int .i64 r315_.gDied] [])], []⟩) [] [2, 3] [2, 3] [] (by kernel_rfl) ?_
      refine Wc.skip ?_
      refine Wc.seq ?_
      refine Wc.seq ?_
      refine Wc.region [] [] [2, 3, 21] [2, 3] [] ⟨[(2, (.ptr 2 0, [])), (3, (.ptr 3 0, [])), (21, (.v (.bool (r314_.gBorn != r315_.gBorn)), []))], [(2, .cells [.int .i64 r314_.gClause.gHead.gKind, .str r314_.gClause.gHead.gName, .int .i64 r314_.gClause.gHead.gNum, .sl (List.map GTerm.c r314_.gClause.gHead.gKids), .int .i64 r314_.gClause.gBody.gKind, .str r314_.gClause.gBody.gName, .int .i64 r314_.gClause.gBody.gNum, .sl (List.map GTerm.c r314_.gClause.gBody.gKids), .str r314_.gClause.gFile, .sl (List.map GIns.c r314_.gCode.gHead), .sl (List.map GIns.c r314_.gCode.gBody), .int .i64 r314_.gCode.gVars, .int .i64 r314_.gBorn, .int .i64 r314_.gDied] []), (3, .cells [.int .i64 r315_.gClause.gHead.gKind, .str r315_.gClause.gHead.gName, .int .i64 r315_.gClause.gHead.gNum, .sl (List.map GTerm.c r315_.gClause.gHead.gKids), .int .i64 r315_.gClause.gBody.gKind, .str r315_.gClause.gBody.gName, .int .i64 r315_.gClause.gBody.gNum, .sl (List.map GTerm.c r315_.gClause.gBody.gKids), .str r315_.gClause.gFile, .sl (List.map GIns.c r315_.gCode.gHead), .sl (List.map GIns.c r315_.gCode.gBody), .int .i64 r315_.gCode.gVars, .int .i64 r315_.gBorn, .int .i64 r315_.gDied] [])], []⟩ _ (by kernel_rfl) .nil ?_
      rcases oif h with ⟨h290, h⟩ | ⟨h290, h⟩
      · refine Wc.condT h290 (by kernel_rfl) ?_
        refine Wc.seq ?_
        refine Wc.region [] [] [4] [] [] ⟨[(4, (.v (.bool false), []))], [], []⟩ _ (by kernel_rfl) .nil ?_
        refine Wc.ret ?_
        obtain rfl := Option.some.inj h
        exact ⟨.inl rfl, by kernel_rfl, by kernel_rfl⟩
      · refine Wc.condF h290 (by kernel_rfl) ?_
        refine Wc.fix (st' := ⟨[(2, (.ptr 2 0, [])), (3, (.ptr 3 0, []))], [(2, .cells [.int .i64 r314_.gClause.gHead.gKind, .str r314_.gClause.gHead.gName, .int .i64 r314_.gClause.gHead.gNum, .sl (List.map GTerm.c r314_.gClause.gHead.gKids), .int .i64 r314_.gClause.gBody.gKind, .str r314_.gClause.gBody.gName, .int .i64 r314_.gClause.gBody.gNum, .sl (List.map GTerm.c r314_.gClause.gBody.gKids), .str r314_.gClause.gFile, .sl (List.map GIns.c r314_.gCode.gHead), .sl (List.map GIns.c r314_.gCode.gBody), .int .i64 r314_.gCode.gVars, .int .i64 r314_.gBorn, .int .i64 r314_.gDied] []), (3, .cells [.int .i64 r315_.gClause.gHead.gKind, .str r315_.gClause.gHead.gName, .int .i64 r315_.gClause.gHead.gNum, .sl (List.map GTerm.c r315_.gClause.gHead.gKids), .int .i64 r315_.gClause.gBody.gKind, .str r315_.gClause.gBody.gName, .int .i64 r315_.gClause.gBody.gNum, .sl (List.map GTerm.c r315_.gClause.gBody.gKids), .str r315_.gClause.gFile, .sl (List.map GIns.c r315_.gCode.gHead), .sl (List.map GIns.c r315_.gCode.gBody), .int .i64 r315_.gCode.gVars, .int .i64 r315_.gBorn, .int .i64 r315_.gDied] [])], []⟩) [] [2, 3] [2, 3] [] (by kernel_rfl) ?_
        refine Wc.skip ?_
        refine Wc.seq ?_
        refine Wc.seq ?_
        refine Wc.region [] [] [26] [] [] ⟨[(26, (.v (.bool (r314_.gDied != r315_.gDied)), []))], [], []⟩ _ (by kernel_rfl) .nil ?_
        rcases oif h with ⟨h291, h⟩ | ⟨h291, h⟩
        · refine Wc.condT h291 (by kernel_rfl) ?_
          refine Wc.seq ?_
          refine Wc.region [] [] [4] [] [] ⟨[(4, (.v (.bool false), []))], [], []⟩ _ (by kernel_rfl) .nil ?_
          refine Wc.ret ?_
          obtain rfl := Option.some.inj h
          exact ⟨.inl rfl, by kernel_rfl, by kernel_rfl⟩
        · refine Wc.condF h291 (by kernel_rfl) ?_
          refine Wc.fix (st' := ⟨[], [], []⟩) [] [] [] [] (by kernel_rfl) ?_
          refine Wc.skip ?_
          refine Wc.seq ?_
          refine Wc.region [] [] [4] [] [] ⟨[(4, (.v (.bool true), []))], [], []⟩ _ (by kernel_rfl) .nil ?_
          refine Wc.ret ?_
          obtain rfl := Option.some.inj h
          exact ⟨.inl rfl, by kernel_rfl, by kernel_rfl⟩

def plaws_eqKeptS_L1 (k : Nat) (s318_ : List GKept) (s319_ : List GKept) : Nat → Int → Option (Out Bool Unit)
  | 0, _ => none
  | m + 1, b320_ =>
    if (decide (b320_ < (s318_.length : Int))) = true then
      (at' s318_ b320_).bind fun r321_ =>
      (at' s319_ b320_).bind fun r322_ =>
      (plaws_eqKept k r321_ r322_).bind fun d323_ =>
      if (!d323_) = true then
        some (.ret false)
      else
        plaws_eqKeptS_L1 k s318_ s319_ m (wr.i64 (b320_ + 1))
    else
      some (.done ())
/-- laws.eqKeptS -/
def plaws_eqKeptS (k : Nat) (s318_ : List GKept) (s319_ : List GKept) : Option Bool :=
  if ((s318_.length : Int) != (s319_.length : Int)) = true then
    some false
  else
    (plaws_eqKeptS_L1 k s318_ s319_ k 0).bind fun out1 => match out1 with
    | .ret r => some r
    | .done () =>
      some true
theorem claws_eqKeptS {k : Nat} {s318_ : List GKept} {s319_ : List GKept} {r : Bool} (h : plaws_eqKeptS k s318_ s319_ = some r) : FnO Try.prog 99 [.v (.sl (List.map GKept.c s318_)) [], .v (.sl (List.map GKept.c s319_)) []] (.v (.bool r) []) [] := by
  refine FnO.of Try.func99 (rfl : Try.f99.body = some _) (Nat.le_of_ble_eq_true (by kernel_rfl)) (Nat.le_of_ble_eq_true (by kernel_rfl)) ?_
  intro w0 X0 Fin pv0 pb
  unfold plaws_eqKeptS at h
  refine Wc.seq ?_
  refine Wc.region [] [] [0, 1] [] [] ⟨[(0, (.v (.sl (List.map GKept.c s318_)), [])), (1, (.v (.sl (List.map GKept.c s319_)), []))], [], []⟩ _ (by kernel_rfl) .nil ?_
  refine Wc.seq ?_
  refine Wc.seq ?_
  refine Wc.region [{}, { v := some (.int .i64 (s318_.length : Int)) }, {}, { v := some (.int .i64 (s319_.length : Int)) }] [] [0, 1, 10] [] [] ⟨[(0, (.v (.sl (List.map GKept.c s318_)), [])), (1, (.v (.sl (List.map GKept.c s319_)), [])), (10, (.v (.bool ((s318_.length : Int) != (s319_.length : Int))), []))], [], []⟩ _ (by kernel_rfl) (.cons (len_obl GKept.c s318_) (.cons (len_obl GKept.c s319_) .nil)) ?_
  rcases oif h with ⟨h292, h⟩ | ⟨h292, h⟩
  · refine Wc.condT h292 (by kernel_rfl) ?_
    refine Wc.seq ?_
    refine Wc.region [] [] [4] [] [] ⟨[(4, (.v (.bool false), []))], [], []⟩ _ (by kernel_rfl) .nil ?_
    refine Wc.ret ?_
    obtain rfl := Option.some.inj h
    exact ⟨.inl rfl, by kernel_rfl, by kernel_rfl⟩
  · refine Wc.condF h292 (by kernel_rfl) ?_
    refine Wc.fix (st' := ⟨[(0, (.v (.sl (List.map GKept.c s318_)), [])), (1, (.v (.sl (List.map GKept.c s319_)), []))], [], []⟩) [] [0, 1] [] [] (by kernel_rfl) ?_
    refine Wc.skip ?_
    refine Wc.seq ?_
    refine Wc.seq ?_
    refine Wc.region [] [] [0, 1, 5] [] [] ⟨[(0, (.v (.sl (List.map GKept.c s318_)), [])), (1, (.v (.sl (List.map GKept.c s319_)), [])), (5, (.v (.int .i64 0), []))], [], []⟩ _ (by kernel_rfl) .nil ?_
    obtain ⟨out1, h293, h⟩ := obind h
    refine Wc.lastJ (fun st => out1 = .done () ∧ st = ⟨[], [], []⟩) ?_ ?_
    · refine Wc.block ?_
      refine Wc.loop (fun m st => ∃ (b320_ : Int), st = ⟨[(0, (.v (.sl (List.map GKept.c s318_)), [])), (1, (.v (.sl (List.map GKept.c s319_)), [])), (5, (.v (.int .i64 b320_), []))], [], []⟩ ∧ plaws_eqKeptS_L1 k s318_ s319_ m b320_ = some out1) ?_ k ⟨_, rfl, h293⟩
      rintro m st ⟨b320_, rfl, h293⟩
      cases m with
      | zero => exact (onone h293).elim
      | succ m =>
        refine Wc.seq ?_
        refine Wc.seq ?_
        refine Wc.region [{}, {}, { v := some (.int .i64 (s318_.length : Int)) }] [] [0, 1, 5, 14] [] [] ⟨[(0, (.v (.sl (List.map GKept.c s318_)), [])), (1, (.v (.sl (List.map GKept.c s319_)), [])), (5, (.v (.int .i64 b320_), [])), (14, (.v (.bool (decide (b320_ < (s318_.length : Int)))), []))], [], []⟩ _ (by kernel_rfl) (.cons (len_obl GKept.c s318_) .nil) ?_
        rcases oif h293 with ⟨h294, h293⟩ | ⟨h294, h293⟩
        · refine Wc.condT h294 (by kernel_rfl) ?_
          refine Wc.fix (st' := ⟨[(0, (.v (.sl (List.map GKept.c s318_)), [])), (1, (.v (.sl (List.map GKept.c s319_)), [])), (5, (.v (.int .i64 b320_), []))], [], []⟩) [] [0, 1, 5] [] [] (by kernel_rfl) ?_
          refine Wc.skip ?_
          refine Wc.seq ?_
          refine Wc.block ?_
          refine Wc.seq ?_
          obtain ⟨r321_, h295, h293⟩ := obind h293
          obtain ⟨r322_, h296, h293⟩ := obind h293
          obtain ⟨d323_, h297, h293⟩ := obind h293
          refine Wc.draw hmix [{}, {}, { v := some (.vptr [.int .i64 r321_.gClause.gHead.gKind, .str r321_.gClause.gHead.gName, .int .i64 r321_.gClause.gHead.gNum, .sl (List.map GTerm.c r321_.gClause.gHead.gKids), .int .i64 r321_.gClause.gBody.gKind, .str r321_.gClause.gBody.gName, .int .i64 r321_.gClause.gBody.gNum, .sl (List.map GTerm.c r321_.gClause.gBody.gKids), .str r321_.gClause.gFile, .sl (List.map GIns.c r321_.gCode.gHead), .sl (List.map GIns.c r321_.gCode.gBody), .int .i64 r321_.gCode.gVars, .int .i64 r321_.gBorn, .int .i64 r321_.gDied]) }, {}, {}, {}, { v := some (.vptr [.int .i64 r322_.gClause.gHead.gKind, .str r322_.gClause.gHead.gName, .int .i64 r322_.gClause.gHead.gNum, .sl (List.map GTerm.c r322_.gClause.gHead.gKids), .int .i64 r322_.gClause.gBody.gKind, .str r322_.gClause.gBody.gName, .int .i64 r322_.gClause.gBody.gNum, .sl (List.map GTerm.c r322_.gClause.gBody.gKids), .str r322_.gClause.gFile, .sl (List.map GIns.c r322_.gCode.gHead), .sl (List.map GIns.c r322_.gCode.gBody), .int .i64 r322_.gCode.gVars, .int .i64 r322_.gBorn, .int .i64 r322_.gDied]) }, {}, { r := some (.v (.bool d323_) []) }] [] [0, 1, 5, 26] [] [] ⟨[(0, (.v (.sl (List.map GKept.c s318_)), [])), (1, (.v (.sl (List.map GKept.c s319_)), [])), (5, (.v (.int .i64 b320_), [])), (26, (.v (.bool (!d323_)), []))], [], []⟩ _ (by kernel_rfl) (fun X => by kernel_rfl) (.cons (at_obl (c := GKept.c) (GKept.c_eq r321_) GKept.c_len h295) (.cons (len_ok 14 [.int .i64 r321_.gClause.gHead.gKind, .str r321_.gClause.gHead.gName, .int .i64 r321_.gClause.gHead.gNum, .sl (List.map GTerm.c r321_.gClause.gHead.gKids), .int .i64 r321_.gClause.gBody.gKind, .str r321_.gClause.gBody.gName, .int .i64 r321_.gClause.gBody.gNum, .sl (List.map GTerm.c r321_.gClause.gBody.gKids), .str r321_.gClause.gFile, .sl (List.map GIns.c r321_.gCode.gHead), .sl (List.map GIns.c r321_.gCode.gBody), .int .i64 r321_.gCode.gVars, .int .i64 r321_.gBorn, .int .i64 r321_.gDied]) (.cons (at_obl (c := GKept.c) (GKept.c_eq r322_) GKept.c_len h296) (.cons (len_ok 14 [.int .i64 r322_.gClause.gHead.gKind, .str r322_.gClause.gHead.gName, .int .i64 r322_.gClause.gHead.gNum, .sl (List.map GTerm.c r322_.gClause.gHead.gKids), .int .i64 r322_.gClause.gBody.gKind, .str r322_.gClause.gBody.gName, .int .i64 r322_.gClause.gBody.gNum, .sl (List.map GTerm.c r322_.gClause.gBody.gKids), .str r322_.gClause.gFile, .sl (List.map GIns.c r322_.gCode.gHead), .sl (List.map GIns.c r322_.gCode.gBody), .int .i64 r322_.gCode.gVars, .int .i64 r322_.gBorn, .int .i64 r322_.gDied]) (.cons (claws_eqKept h297) .nil))))) ?_
          rcases oif h293 with ⟨h298, h293⟩ | ⟨h298, h293⟩
          · refine Wc.condT h298 (by kernel_rfl) ?_
            refine Wc.seq ?_
            refine Wc.region [] [] [4] [] [] ⟨[(4, (.v (.bool false), []))], [], []⟩ _ (by kernel_rfl) .nil ?_
            refine Wc.ret ?_
            obtain rfl := Option.some.inj h293
            obtain rfl := Option.some.inj h
            exact ⟨.inl rfl, by kernel_rfl, by kernel_rfl⟩
          · refine Wc.condF h298 (by kernel_rfl) ?_
            refine Wc.fix (st' := ⟨[(0, (.v (.sl (List.map GKept.c s318_)), [])), (1, (.v (.sl (List.map GKept.c s319_)), [])), (5, (.v (.int .i64 b320_), []))], [], []⟩) [] [0, 1, 5] [] [] (by kernel_rfl) ?_
            refine Wc.skip ?_
            refine Wc.region [] [] [0, 1, 5] [] [] ⟨[(0, (.v (.sl (List.map GKept.c s318_)), [])), (1, (.v (.sl (List.map GKept.c s319_)), [])), (5, (.v (.int .i64 (wr.i64 (b320_ + 1))), []))], [], []⟩ _ (by kernel_rfl) .nil ?_
            exact ⟨_, Nat.lt_succ_self _, _, rfl, h293⟩
        · refine Wc.condF h294 (by kernel_rfl) ?_
          refine Wc.fix (st' := ⟨[], [], []⟩) [] [] [] [] (by kernel_rfl) ?_
          refine Wc.exit ?_
          obtain rfl := Option.some.inj h293
          exact ⟨rfl, rfl⟩
    · rintro st ⟨rfl, rfl⟩
      refine Wc.seq ?_
      refine Wc.region [] [] [4] [] [] ⟨[(4, (.v (.bool true), []))], [], []⟩ _ (by kernel_rfl) .nil ?_
      refine Wc.ret ?_
      obtain rfl := Option.some.inj h
      exact ⟨.inl rfl, by kernel_rfl, by kernel_rfl⟩

/-- laws.eqStore -/
def plaws_eqStore (k : Nat) (t324_ : GStore) (t325_ : GStore) : Option Bool :=
  (plaws_eqKeptS k t324_.gList t325_.gList).bind fun d326_ =>
  if (!d326_) = true then
    some false
  else
    (plaws_eqStringS k t324_.gOpen t325_.gOpen).bind fun d327_ =>
    if (!d327_) = true then
      some false
    else
      if (t324_.gNow != t325_.gNow) = true then
        some false
      else
        some true
theorem claws_eqStore {k : Nat} {t324_ : GStore} {t325_ : GStore} {r : Bool} (h : plaws_eqStore k t324_ t325_ = some r) : FnO Try.prog 43 [.v (.agg [.sl (List.map GKept.c t324_.gList), .sl (List.map cS t324_.gOpen), .int .i64 t324_.gNow]) [], .v (.agg [.sl (List.map GKept.c t325_.gList), .sl (List.map cS t325_.gOpen), .int .i64 t325_.gNow]) []] (.v (.bool r) []) [] := by
  refine FnO.of Try.func43 (rfl : Try.f43.body = some _) (Nat.le_of_ble_eq_true (by kernel_rfl)) (Nat.le_of_ble_eq_true (by kernel_rfl)) ?_
  intro w0 X0 Fin pv0 pb
  unfold plaws_eqStore at h
  refine Wc.seq ?_
  refine Wc.region [] [] [2, 3] [2, 3] [] ⟨[(2, (.ptr 2 0, [])), (3, (.ptr 3 0, []))], [(2, .cells [.sl (List.map GKept.c t324_.gList), .sl (List.map cS t324_.gOpen), .int .i64 t324_.gNow] []), (3, .cells [.sl (List.map GKept.c t325_.gList), .sl (List.map cS t325_.gOpen), .int .i64 t325_.gNow] [])], []⟩ _ (by kernel_rfl) .nil ?_
  refine Wc.seq ?_
  refine Wc.seq ?_
  obtain ⟨d326_, h299, h⟩ := obind h
  refine Wc.region [{}, {}, {}, {}, { r := some (.v (.bool d326_) []) }] [] [2, 3, 10] [2, 3] [] ⟨[(2, (.ptr 2 0, [])), (3, (.ptr 3 0, [])), (10, (.v (.bool (!d326_)), []))], [(2, .cells [.sl (List.map GKept.c t324_.gList), .sl (List.map cS t324_.gOpen), .int .i64 t324_.gNow] []), (3, .cells [.sl (List.map GKept.c t325_.gList), .sl (List.map cS t325_.gOpen), .int .i64 t325_.gNow] [])], []⟩ _ (by kernel_rfl) (.cons (claws_eqKeptS h299) .nil) ?_
  rcases oif h with ⟨h300, h⟩ | ⟨h300, h⟩
  · refine Wc.condT h300 (by kernel_rfl) ?_
    refine Wc.seq ?_
    refine Wc.region [] [] [4] [] [] ⟨[(4, (.v (.bool false), []))], [], []⟩ _ (by kernel_rfl) .nil ?_
    refine Wc.ret ?_
    obtain rfl := Option.some.inj h
    exact ⟨.inl rfl, by kernel_rfl, by kernel_rfl⟩
  · refine Wc.condF h300 (by kernel_rfl) ?_
    refine Wc.fix (st' := ⟨[(2, (.ptr 2 0, [])), (3, (.ptr 3 0, []))], [(2, .cells [.sl (List.map GKept.c t324_.gList), .sl (List.map cS t324_.gOpen), .int .i64 t324_.gNow] []), (3, .cells [.sl (List.map GKept.c t325_.gList), .sl (List.map cS t325_.gOpen), .int .i64 t325_.gNow] [])], []⟩) [] [2, 3] [2, 3] [] (by kernel_rfl) ?_
    refine Wc.skip ?_
    refine Wc.seq ?_
    refine Wc.seq ?_
    obtain ⟨d327_, h301, h⟩ := obind h
    refine Wc.region [{}, {}, {}, {}, { r := some (.v (.bool d327_) []) }] [] [2, 3, 16] [2, 3] [] ⟨[(2, (.ptr 2 0, [])), (3, (.ptr 3 0, [])), (16, (.v (.bool (!d327_)), []))], [(2, .cells [.sl (List.map GKept.c t324_.gList), .sl (List.map cS t324_.gOpen), .int .i64 t324_.gNow] []), (3, .cells [.sl (List.map GKept.c t325_.gList), .sl (List.map cS t325_.gOpen), .int .i64 t325_.gNow] [])], []⟩ _ (by kernel_rfl) (.cons (claws_eqStringS h301) .nil) ?_
    rcases oif h with ⟨h302, h⟩ | ⟨h302, h⟩
    · refine Wc.condT h302 (by kernel_rfl) ?_
      refine Wc.seq ?_
      refine Wc.region [] [] [4] [] [] ⟨[(4, (.v (.bool false), []))], [], []⟩ _ (by kernel_rfl) .nil ?_
      refine Wc.ret ?_
      obtain rfl := Option.some.inj h
      exact ⟨.inl rfl, by kernel_rfl, by kernel_rfl⟩
    · refine Wc.condF h302 (by kernel_rfl) ?_
      refine Wc.fix (st' := ⟨[(2, (.ptr 2 0, [])), (3, (.ptr 3 0, []))], [(2, .cells [.sl (List.map GKept.c t324_.gList), .sl (List.map cS t324_.gOpen), .int .i64 t324_.gNow] []), (3, .cells [.sl (List.map GKept.c t325_.gList), .sl (List.map cS t325_.gOpen), .int .i64 t325_.gNow] [])], []⟩) [] [2, 3] [2, 3] [] (by kernel_rfl) ?_
      refine Wc.skip ?_
      refine Wc.seq ?_
      refine Wc.seq ?_
      refine Wc.region [] [] [21] [] [] ⟨[(21, (.v (.bool (t324_.gNow != t325_.gNow)), []))], [], []⟩ _ (by kernel_rfl) .nil ?_
      rcases oif h with ⟨h303, h⟩ | ⟨h303, h⟩
      · refine Wc.condT h303 (by kernel_rfl) ?_
        refine Wc.seq ?_
        refine Wc.region [] [] [4] [] [] ⟨[(4, (.v (.bool false), []))], [], []⟩ _ (by kernel_rfl) .nil ?_
        refine Wc.ret ?_
        obtain rfl := Option.some.inj h
        exact ⟨.inl rfl, by kernel_rfl, by kernel_rfl⟩
      · refine Wc.condF h303 (by kernel_rfl) ?_
        refine Wc.fix (st' := ⟨[], [], []⟩) [] [] [] [] (by kernel_rfl) ?_
        refine Wc.skip ?_
        refine Wc.seq ?_
        refine Wc.region [] [] [4] [] [] ⟨[(4, (.v (.bool true), []))], [], []⟩ _ (by kernel_rfl) .nil ?_
        refine Wc.ret ?_
        obtain rfl := Option.some.inj h
        exact ⟨.inl rfl, by kernel_rfl, by kernel_rfl⟩

def plaws_markInsS_L1 (k : Nat) : Nat → Int → Int → (List GIns) → Option (Out ((List GIns) × Int) (Int × (List GIns)))
  | 0, _, _, _ => none
  | m + 1, b330_, b331_, p332_ =>
    if (decide (b331_ < (p332_.length : Int))) = true then
      (at' p332_ b331_).bind fun o335_ =>
      (plaws_markText k (wr.i64 (b330_ + 1))).bind fun i336_ =>
      (at' (p332_.set ((b331_).toNat) (GIns.mk b330_ o335_.gName o335_.gNum o335_.gMany)) b331_).bind fun o337_ =>
      (at' ((p332_.set ((b331_).toNat) (GIns.mk b330_ o335_.gName o335_.gNum o335_.gMany)).set ((b331_).toNat) (GIns.mk o337_.gOp i336_ o337_.gNum o337_.gMany)) b331_).bind fun o338_ =>
      (at' (((p332_.set ((b331_).toNat) (GIns.mk b330_ o335_.gName o335_.gNum o335_.gMany)).set ((b331_).toNat) (GIns.mk o337_.gOp i336_ o337_.gNum o337_.gMany)).set ((b331_).toNat) (GIns.mk o338_.gOp o338_.gName (wr.i64 ((wr.i64 (b330_ + 1)) + 1)) o338_.gMany)) b331_).bind fun o339_ =>
      plaws_markInsS_L1 k m (wr.i64 ((wr.i64 ((wr.i64 ((wr.i64 (b330_ + 1)) + 1)) + 1)) + 1)) (wr.i64 (b331_ + 1)) ((((p332_.set ((b331_).toNat) (GIns.mk b330_ o335_.gName o335_.gNum o335_.gMany)).set ((b331_).toNat) (GIns.mk o337_.gOp i336_ o337_.gNum o337_.gMany)).set ((b331_).toNat) (GIns.mk o338_.gOp o338_.gName (wr.i64 ((wr.i64 (b330_ + 1)) + 1)) o338_.gMany)).set ((b331_).toNat) (GIns.mk o339_.gOp o339_.gName o339_.gNum (wr.i64 ((wr.i64 ((wr.i64 (b330_ + 1)) + 1)) + 1))))
    else
      some (.done (b330_, p332_))
/-- laws.markInsS -/
def plaws_markInsS (k : Nat) (p328_ : List GIns) (b329_ : Int) : Option ((List GIns) × Int) :=
  (plaws_markInsS_L1 k k b329_ 0 p328_).bind fun out1 => match out1 with
  | .ret r => some r
  | .done (b333_, p334_) =>
    some (p334_, b333_)
theorem claws_markInsS {k : Nat} {p328_ : List GIns} {b329_ : Int} {r : (List GIns) × Int} (h : plaws_markInsS k p328_ b329_ = some r) : FnO Try.prog 85 [.io (.slx) [(0, .ex 1000000007 true (List.map GIns.c p328_))], .v (.int .i64 b329_) []] (.v (.int .i64 r.2) []) [(0, .v .undef [(0, .ex 1000000007 true (List.map GIns.c r.1))])] := by
  refine FnO.of Try.func85 (rfl : Try.f85.body = some _) (Nat.le_of_ble_eq_true (by kernel_rfl)) (Nat.le_of_ble_eq_true (by kernel_rfl)) ?_
  intro w0 X0 Fin pv0 pb
  unfold plaws_markInsS at h
  refine Wc.seq ?_
  refine Wc.region [] [] [0, 1] [] [0] ⟨[(0, (.v (.slx), [(0, .al (.a 0 0) [])])), (1, (.v (.int .i64 b329_), []))], [], [(0, [(0, .ex 1000000007 true (List.map GIns.c p328_))])]⟩ _ (by kernel_rfl) .nil ?_
  refine Wc.seq ?_
  refine Wc.seq ?_
  refine Wc.region [] [] [0, 1, 5] [] [0] ⟨[(0, (.v (.slx), [(0, .al (.a 0 0) [])])), (1, (.v (.int .i64 b329_), [])), (5, (.v (.int .i64 0), []))], [], [(0, [(0, .ex 1000000007 true (List.map GIns.c p328_))])]⟩ _ (by kernel_rfl) .nil ?_
  obtain ⟨out1, h304, h⟩ := obind h
  refine Wc.lastJ (fun st => ∃ (b333_ : Int) (p334_ : List GIns), out1 = .done (b333_, p334_) ∧ st = ⟨[(1, (.v (.int .i64 b333_), []))], [], [(0, [(0, .ex 1000000007 true (List.map GIns.c p334_))])]⟩) ?_ ?_
  · refine Wc.block ?_
    refine Wc.loop (fun m st => ∃ (b330_ : Int) (b331_ : Int) (p332_ : List GIns), st = ⟨[(0, (.v (.slx), [(0, .al (.a 0 0) [])])), (1, (.v (.int .i64 b330_), [])), (5, (.v (.int .i64 b331_), []))], [], [(0, [(0, .ex 1000000007 true (List.map GIns.c p332_))])]⟩ ∧ plaws_markInsS_L1 k m b330_ b331_ p332_ = some out1) ?_ k ⟨_, _, _, rfl, h304⟩
    rintro m st ⟨b330_, b331_, p332_, rfl, h304⟩
    cases m with
    | zero => exact (onone h304).elim
    | succ m =>
      refine Wc.seq ?_
      refine Wc.seq ?_
      refine Wc.region [{}, {}, { v := some (.int .i64 (p332_.length : Int)) }] [] [0, 1, 5, 9] [] [0] ⟨[(0, (.v (.slx), [(0, .al (.a 0 0) [])])), (1, (.v (.int .i64 b330_), [])), (5, (.v (.int .i64 b331_), [])), (9, (.v (.bool (decide (b331_ < (p332_.length : Int)))), []))], [], [(0, [(0, .ex 1000000007 true (List.map GIns.c p332_))])]⟩ _ (by kernel_rfl) (.cons (len_obl GIns.c p332_) .nil) ?_
      rcases oif h304 with ⟨h305, h304⟩ | ⟨h305, h304⟩
      · refine Wc.condT h305 (by kernel_rfl) ?_
        refine Wc.fix (st' := ⟨[(0, (.v (.slx), [(0, .al (.a 0 0) [])])), (1, (.v (.int .i64 b330_), [])), (5, (.v (.int .i64 b331_), []))], [], [(0, [(0, .ex 1000000007 true (List.map GIns.c p332_))])]⟩) [] [0, 1, 5] [] [0] (by kernel_rfl) ?_
        refine Wc.skip ?_
        refine Wc.seq ?_
        refine Wc.block ?_
        refine Wc.seq ?_
        obtain ⟨o335_, h306, h304⟩ := obind h304
        refine Wc.region [{}, {}, {}, {}, {}, { c := some (List.map GIns.c (p332_.set ((b331_).toNat) (GIns.mk b330_ o335_.gName o335_.gNum o335_.gMany))) }] [] [0, 1, 5] [] [0] ⟨[(0, (.v (.slx), [(0, .al (.a 0 0) [])])), (1, (.v (.int .i64 b330_), [])), (5, (.v (.int .i64 b331_), []))], [], [(0, [(0, .ex 1000000007 true (List.map GIns.c (p332_.set ((b331_).toNat) (GIns.mk b330_ o335_.gName o335_.gNum o335_.gMany))))])]⟩ _ (by kernel_rfl) (.cons (ix_obl (c := GIns.c) GIns.c_len h306) (.cons (mod_obl (off := 0) (new := [.int .i64 b330_]) (c := GIns.c) (GIns.c_eq o335_) (GIns.c_eq (GIns.mk b330_ o335_.gName o335_.gNum o335_.gMany)) (at'_spec h306).2 rfl) (.cons (st_obl (sz := 4) (off := 0) (s := 1) (c := GIns.c) (GIns.c_eq o335_) (at'_spec h306).2 rfl (Nat.le_of_ble_eq_true rfl)) .nil))) ?_
        refine Wc.seq ?_
        refine Wc.region [] [] [0, 1, 5] [] [0] ⟨[(0, (.v (.slx), [(0, .al (.a 0 0) [])])), (1, (.v (.int .i64 (wr.i64 (b330_ + 1))), [])), (5, (.v (.int .i64 b331_), []))], [], [(0, [(0, .ex 1000000007 true (List.map GIns.c (p332_.set ((b331_).toNat) (GIns.mk b330_ o335_.gName o335_.gNum o335_.gMany))))])]⟩ _ (by kernel_rfl) .nil ?_
        refine Wc.seq ?_
        obtain ⟨i336_, h307, h304⟩ := obind h304
        obtain ⟨o337_, h308, h304⟩ := obind h304
        refine Wc.region [{}, {}, {}, { r := some (.v (.str i336_) []) }, {}, {}, { c := some (List.map GIns.c ((p332_.set ((b331_).toNat) (GIns.mk b330_ o335_.gName o335_.gNum o335_.gMany)).set ((b331_).toNat) (GIns.mk o337_.gOp i336_ o337_.gNum o337_.gMany))) }] [] [0, 1, 5] [] [0] ⟨[(0, (.v (.slx), [(0, .al (.a 0 0) [])])), (1, (.v (.int .i64 (wr.i64 (b330_ + 1))), [])), (5, (.v (.int .i64 b331_), []))], [], [(0, [(0, .ex 1000000007 true (List.map GIns.c ((p332_.set ((b331_).toNat) (GIns.mk b330_ o335_.gName o335_.gNum o335_.gMany)).set ((b331_).toNat) (GIns.mk o337_.gOp i336_ o337_.gNum o337_.gMany))))])]⟩ _ (by kernel_rfl) (.cons (claws_markText h307) (.cons (ix_obl (c := GIns.c) GIns.c_len h308) (.cons (mod_obl (off := 1) (new := [.str i336_]) (c := GIns.c) (GIns.c_eq o337_) (GIns.c_eq (GIns.mk o337_.gOp i336_ o337_.gNum o337_.gMany)) (at'_spec h308).2 rfl) (.cons (st_obl (sz := 4) (off := 1) (s := 1) (c := GIns.c) (GIns.c_eq o337_) (at'_spec h308).2 rfl (Nat.le_of_ble_eq_true rfl)) .nil)))) ?_
        refine Wc.seq ?_
        refine Wc.region [] [] [0, 1, 5] [] [0] ⟨[(0, (.v (.slx), [(0, .al (.a 0 0) [])])), (1, (.v (.int .i64 (wr.i64 ((wr.i64 (b330_ + 1)) + 1))), [])), (5, (.v (.int .i64 b331_), []))], [], [(0, [(0, .ex 1000000007 true (List.map GIns.c ((p332_.set ((b331_).toNat) (GIns.mk b330_ o335_.gName o335_.gNum o335_.gMany)).set ((b331_).toNat) (GIns.mk o337_.gOp i336_ o337_.gNum o337_.gMany))))])]⟩ _ (by kernel_rfl) .nil ?_
        refine Wc.seq ?_
        obtain ⟨o338_, h309, h304⟩ := obind h304
        refine Wc.region [{}, {}, {}, {}, {}, { c := some (List.map GIns.c (((p332_.set ((b331_).toNat) (GIns.mk b330_ o335_.gName o335_.gNum o335_.gMany)).set ((b331_).toNat) (GIns.mk o337_.gOp i336_ o337_.gNum o337_.gMany)).set ((b331_).toNat) (GIns.mk o338_.gOp o338_.gName (wr.i64 ((wr.i64 (b330_ + 1)) + 1)) o338_.gMany))) }] [] [0, 1, 5] [] [0] ⟨[(0, (.v (.slx), [(0, .al (.a 0 0) [])])), (1, (.v (.int .i64 (wr.i64 ((wr.i64 (b330_ + 1)) + 1))), [])), (5, (.v (.int .i64 b331_), []))], [], [(0, [(0, .ex 1000000007 true (List.map GIns.c (((p332_.set ((b331_).toNat) (GIns.mk b330_ o335_.gName o335_.gNum o335_.gMany)).set ((b331_).toNat) (GIns.mk o337_.gOp i336_ o337_.gNum o337_.gMany)).set ((b331_).toNat) (GIns.mk o338_.gOp o338_.gName (wr.i64 ((wr.i64 (b330_ + 1)) + 1)) o338_.gMany))))])]⟩ _ (by kernel_rfl) (.cons (ix_obl (c := GIns.c) GIns.c_len h309) (.cons (mod_obl (off := 2) (new := [.int .i64 (wr.i64 ((wr.i64 (b330_ + 1)) + 1))]) (c := GIns.c) (GIns.c_eq o338_) (GIns.c_eq (GIns.mk o338_.gOp o338_.gName (wr.i64 ((wr.i64 (b330_ + 1)) + 1)) o338_.gMany)) (at'_spec h309).2 rfl) (.cons (st_obl (sz := 4) (off := 2) (s := 1) (c := GIns.c) (GIns.c_eq o338_) (at'_spec h309).2 rfl (Nat.le_of_ble_eq_true rfl)) .nil))) ?_
        refine Wc.seq ?_
        refine Wc.region [] [] [0, 1, 5] [] [0] ⟨[(0, (.v (.slx), [(0, .al (.a 0 0) [])])), (1, (.v (.int .i64 (wr.i64 ((wr.i64 ((wr.i64 (b330_ + 1)) + 1)) + 1))), [])), (5, (.v (.int .i64 b331_), []))], [], [(0, [(0, .ex 1000000007 true (List.map GIns.c (((p332_.set ((b331_).toNat) (GIns.mk b330_ o335_.gName o335_.gNum o335_.gMany)).set ((b331_).toNat) (GIns.mk o337_.gOp i336_ o337_.gNum o337_.gMany)).set ((b331_).toNat) (GIns.mk o338_.gOp o338_.gName (wr.i64 ((wr.i64 (b330_ + 1)) + 1)) o338_.gMany))))])]⟩ _ (by kernel_rfl) .nil ?_
        refine Wc.seq ?_
        obtain ⟨o339_, h310, h304⟩ := obind h304
        refine Wc.region [{}, {}, {}, {}, {}, { c := some (List.map GIns.c ((((p332_.set ((b331_).toNat) (GIns.mk b330_ o335_.gName o335_.gNum o335_.gMany)).set ((b331_).toNat) (GIns.mk o337_.gOp i336_ o337_.gNum o337_.gMany)).set ((b331_).toNat) (GIns.mk o338_.gOp o338_.gName (wr.i64 ((wr.i64 (b330_ + 1)) + 1)) o338_.gMany)).set ((b331_).toNat) (GIns.mk o339_.gOp o339_.gName o339_.gNum (wr.i64 ((wr.i64 ((wr.i64 (b330_ + 1)) + 1)) + 1))))) }] [] [0, 1, 5] [] [0] ⟨[(0, (.v (.slx), [(0, .al (.a 0 0) [])])), (1, (.v (.int .i64 (wr.i64 ((wr.i64 ((wr.i64 (b330_ + 1)) + 1)) + 1))), [])), (5, (.v (.int .i64 b331_), []))], [], [(0, [(0, .ex 1000000007 true (List.map GIns.c ((((p332_.set ((b331_).toNat) (GIns.mk b330_ o335_.gName o335_.gNum o335_.gMany)).set ((b331_).toNat) (GIns.mk o337_.gOp i336_ o337_.gNum o337_.gMany)).set ((b331_).toNat) (GIns.mk o338_.gOp o338_.gName (wr.i64 ((wr.i64 (b330_ + 1)) + 1)) o338_.gMany)).set ((b331_).toNat) (GIns.mk o339_.gOp o339_.gName o339_.gNum (wr.i64 ((wr.i64 ((wr.i64 (b330_ + 1)) + 1)) + 1))))))])]⟩ _ (by kernel_rfl) (.cons (ix_obl (c := GIns.c) GIns.c_len h310) (.cons (mod_obl (off := 3) (new := [.int .i64 (wr.i64 ((wr.i64 ((wr.i64 (b330_ + 1)) + 1)) + 1))]) (c := GIns.c) (GIns.c_eq o339_) (GIns.c_eq (GIns.mk o339_.gOp o339_.gName o339_.gNum (wr.i64 ((wr.i64 ((wr.i64 (b330_ + 1)) + 1)) + 1)))) (at'_spec h310).2 rfl) (.cons (st_obl (sz := 4) (off := 3) (s := 1) (c := GIns.c) (GIns.c_eq o339_) (at'_spec h310).2 rfl (Nat.le_of_ble_eq_true rfl)) .nil))) ?_
        refine Wc.region [] [] [0, 1, 5] [] [0] ⟨[(0, (.v (.slx), [(0, .al (.a 0 0) [])])), (1, (.v (.int .i64 (wr.i64 ((wr.i64 ((wr.i64 ((wr.i64 (b330_ + 1)) + 1)) + 1)) + 1))), [])), (5, (.v (.int .i64 b331_), []))], [], [(0, [(0, .ex 1000000007 true (List.map GIns.c ((((p332_.set ((b331_).toNat) (GIns.mk b330_ o335_.gName o335_.gNum o335_.gMany)).set ((b331_).toNat) (GIns.mk o337_.gOp i336_ o337_.gNum o337_.gMany)).set ((b331_).toNat) (GIns.mk o338_.gOp o338_.gName (wr.i64 ((wr.i64 (b330_ + 1)) + 1)) o338_.gMany)).set ((b331_).toNat) (GIns.mk o339_.gOp o339_.gName o339_.gNum (wr.i64 ((wr.i64 ((wr.i64 (b330_ + 1)) + 1)) + 1))))))])]⟩ _ (by kernel_rfl) .nil ?_
        refine Wc.region [] [] [0, 1, 5] [] [0] ⟨[(0, (.v (.slx), [(0, .al (.a 0 0) [])])), (1, (.v (.int .i64 (wr.i64 ((wr.i64 ((wr.i64 ((wr.i64 (b330_ + 1)) + 1)) + 1)) + 1))), [])), (5, (.v (.int .i64 (wr.i64 (b331_ + 1))), []))], [], [(0, [(0, .ex 1000000007 true (List.map GIns.c ((((p332_.set ((b331_).toNat) (GIns.mk b330_ o335_.gName o335_.gNum o335_.gMany)).set ((b331_).toNat) (GIns.mk o337_.gOp i336_ o337_.gNum o337_.gMany)).set ((b331_).toNat) (GIns.mk o338_.gOp o338_.gName (wr.i64 ((wr.i64 (b330_ + 1)) + 1)) o338_.gMany)).set ((b331_).toNat) (GIns.mk o339_.gOp o339_.gName o339_.gNum (wr.i64 ((wr.i64 ((wr.i64 (b330_ + 1)) + 1)) + 1))))))])]⟩ _ (by kernel_rfl) .nil ?_
        exact ⟨_, Nat.lt_succ_self _, _, _, _, rfl, h304⟩
      · refine Wc.condF h305 (by kernel_rfl) ?_
        refine Wc.fix (st' := ⟨[(1, (.v (.int .i64 b330_), []))], [], [(0, [(0, .ex 1000000007 true (List.map GIns.c p332_))])]⟩) [] [1] [] [0] (by kernel_rfl) ?_
        refine Wc.exit ?_
        obtain rfl := Option.some.inj h304
        exact ⟨_, _, rfl, rfl⟩
  · rintro st ⟨b333_, p334_, rfl, rfl⟩
    refine Wc.seq ?_
    refine Wc.region [] [] [4] [] [0] ⟨[(4, (.v (.int .i64 b333_), []))], [], [(0, [(0, .ex 1000000007 true (List.map GIns.c p334_))])]⟩ _ (by kernel_rfl) .nil ?_
    refine Wc.ret ?_
    obtain rfl := Option.some.inj h
    exact ⟨.inl rfl, by kernel_rfl, by kernel_rfl⟩
end Go.Proofs.Ytgfpmdaihkdhkaa

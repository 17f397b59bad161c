/- What the functions do, part 2. -/
import Derived.Test.YtmfimfgdbmjkkaaDoorFna
set_option linter.unusedVariables false
set_option linter.unusedSimpArgs false
namespace Go.Proofs.YtmfimfgdbmjkkaaDoor
open Go.RowKit Go.Bv
/-- spec.WriteTerm -/
def pspec_WriteTerm (k : Nat) (c160_ : GTerm) : Option ByteArray :=
  (pspec_TermOk k c160_).bind fun e161_ =>
  if (!e161_) = true then
    some (bs [])
  else
    (pspec_l07Write k c160_).bind fun d162_ =>
    some d162_
theorem cspec_WriteTerm {k : Nat} {c160_ : GTerm} {r : ByteArray} (h : pspec_WriteTerm k c160_ = some r) : FnO Tryd.prog 5 [.v (.agg [.int .i64 c160_.gKind, .str c160_.gName, .int .i64 c160_.gNum, .sl (List.map GTerm.c c160_.gKids)]) []] (.v (.str r) []) [] := by
  refine FnO.of Tryd.func5 (rfl : Tryd.f5.body = some _) (Nat.le_of_ble_eq_true (by kernel_rfl)) (Nat.le_of_ble_eq_true (by kernel_rfl)) ?_
  intro w0 X0 Fin pv0 pb gt
  unfold pspec_WriteTerm at h
  refine Wc.seq ?_
  refine Wc.region [] [] [1] [1] [] ⟨[(1, (.ptr 1 0, []))], [(1, .cells [.int .i64 c160_.gKind, .str c160_.gName, .int .i64 c160_.gNum, .sl (List.map GTerm.c c160_.gKids)] [])], []⟩ _ (by kernel_rfl) .nil ?_
  refine Wc.seq ?_
  refine Wc.seq ?_
  obtain ⟨e161_, h287, h⟩ := obind h
  refine Wc.region [{}, { r := some (.v (.bool e161_) []) }] [] [1, 5] [1] [] ⟨[(1, (.ptr 1 0, [])), (5, (.v (.bool (!e161_)), []))], [(1, .cells [.int .i64 c160_.gKind, .str c160_.gName, .int .i64 c160_.gNum, .sl (List.map GTerm.c c160_.gKids)] [])], []⟩ _ (by kernel_rfl) (.cons (cspec_TermOk h287) .nil) ?_
  rcases oif h with ⟨h288, h⟩ | ⟨h288, h⟩
  · refine Wc.condT h288 (by kernel_rfl) ?_
    refine Wc.seq ?_
    refine Wc.region [] [] [2] [] [] ⟨[(2, (.v (.str (bs [])), []))], [], []⟩ _ (by kernel_rfl) .nil ?_
    refine Wc.ret ?_
    obtain rfl := Option.some.inj h
    exact ⟨.inl rfl, by kernel_rfl, by kernel_rfl⟩
  · refine Wc.condF h288 (by kernel_rfl) ?_
    refine Wc.fix (st' := ⟨[(1, (.ptr 1 0, []))], [(1, .cells [.int .i64 c160_.gKind, .str c160_.gName, .int .i64 c160_.gNum, .sl (List.map GTerm.c c160_.gKids)] [])], []⟩) [] [1] [1] [] (by kernel_rfl) ?_
    refine Wc.skip ?_
    refine Wc.seq ?_
    obtain ⟨d162_, h289, h⟩ := obind h
    refine Wc.region [{}, { r := some (.v (.str d162_) []) }] [] [2] [] [] ⟨[(2, (.v (.str d162_), []))], [], []⟩ _ (by kernel_rfl) (.cons (cspec_l07Write h289) .nil) ?_
    refine Wc.ret ?_
    obtain rfl := Option.some.inj h
    exact ⟨.inl rfl, by kernel_rfl, by kernel_rfl⟩

def plaws_toTermS_L1 (k : Nat) (rlaws_toTerm : GTerm → Option GTerm) (rlaws_toTermS : (List GTerm) → Option (List GTerm)) (a165_ : List GTerm) : Nat → (List GTerm) → Int → Option (Out (List GTerm) (List GTerm))
  | 0, _, _ => none
  | m + 1, a166_, b167_ =>
    if (decide (b167_ < (a165_.length : Int))) = true then
      (at' a165_ b167_).bind fun c169_ =>
      (rlaws_toTerm c169_).bind fun c170_ =>
      (at' a166_ b167_).bind fun c171_ =>
      plaws_toTermS_L1 k rlaws_toTerm rlaws_toTermS a165_ m (a166_.set ((b167_).toNat) c170_) (wr.i64 (b167_ + 1))
    else
      some (.done a166_)
mutual
/-- laws.toTerm -/
def plaws_toTerm : Nat → GTerm → Option GTerm
  | 0, _ => none
  | k + 1, c163_ =>
    (plaws_toTermS k c163_.gKids).bind fun m164_ =>
    some (GTerm.mk c163_.gKind c163_.gName c163_.gNum m164_)
/-- laws.toTermS -/
def plaws_toTermS : Nat → (List GTerm) → Option (List GTerm)
  | 0, _ => none
  | k + 1, a165_ =>
    if 0 ≤ (a165_.length : Int) ∧ (a165_.length : Int) ≤ 1073741824 then
      (plaws_toTermS_L1 k (plaws_toTerm k) (plaws_toTermS k) a165_ k (List.replicate ((a165_.length : Int)).toNat (GTerm.mk 0 (bs []) 0 [])) 0).bind fun out1 => match out1 with
      | .ret r => some r
      | .done a168_ =>
        some a168_
    else none
end
theorem all_plaws_toTerm : ∀ k : Nat, (∀ {c163_ : GTerm} {r : GTerm}, plaws_toTerm k c163_ = some r → FnO Tryd.prog 6 [.v (.agg [.int .i64 c163_.gKind, .str c163_.gName, .int .i64 c163_.gNum, .sl (List.map GTerm.c c163_.gKids)]) []] (.v (.agg [.int .i64 r.gKind, .str r.gName, .int .i64 r.gNum, .sl (List.map GTerm.c r.gKids)]) []) []) ∧
    (∀ {a165_ : List GTerm} {r : (List GTerm)}, plaws_toTermS k a165_ = some r → FnO Tryd.prog 12 [.v (.sl (List.map GTerm.c a165_)) []] (.v (.sl (List.map GTerm.c r)) []) []) := by
  intro k
  induction k with
  | zero =>
    refine ⟨?_, ?_⟩
    · intro c163_ r h
      exact (onone (by rw [plaws_toTerm] at h; exact h)).elim
    · intro a165_ r h
      exact (onone (by rw [plaws_toTermS] at h; exact h)).elim
  | succ k ih =>
    obtain ⟨ih_plaws_toTerm, ih_plaws_toTermS⟩ := ih
    refine ⟨?_, ?_⟩
    · intro c163_ r h
      rw [plaws_toTerm] at h
      refine FnO.of Tryd.func6 (rfl : Tryd.f6.body = some _) (Nat.le_of_ble_eq_true (by kernel_rfl)) (Nat.le_of_ble_eq_true (by kernel_rfl)) ?_
      intro w0 X0 Fin pv0 pb gt
      refine Wc.seq ?_
      refine Wc.region [] [] [1, 2] [1, 2] [] ⟨[(1, (.ptr 1 0, [])), (2, (.ptr 2 0, []))], [(1, .cells [.int .i64 c163_.gKind, .str c163_.gName, .int .i64 c163_.gNum, .sl (List.map GTerm.c c163_.gKids)] []), (2, .cells [.int .i64 0, .str (bs []), .int .i64 0, .sl (List.map GTerm.c [])] [(3, .app 29)])], []⟩ _ (by kernel_rfl) .nil ?_
      refine Wc.seq ?_
      refine Wc.region [] [] [1, 2, 3] [1, 2, 3] [] ⟨[(1, (.ptr 1 0, [])), (2, (.ptr 2 0, [])), (3, (.ptr 3 0, []))], [(1, .cells [.int .i64 c163_.gKind, .str c163_.gName, .int .i64 c163_.gNum, .sl (List.map GTerm.c c163_.gKids)] []), (2, .cells [.int .i64 0, .str (bs []), .int .i64 0, .sl (List.map GTerm.c [])] [(3, .app 29)]), (3, .cells [.int .i64 0, .str (bs []), .int .i64 0, .sl (List.map GTerm.c [])] [(3, .app 29)])], []⟩ _ (by kernel_rfl) .nil ?_
      refine Wc.seq ?_
      refine Wc.region [] [] [1, 2, 3] [1, 2, 3] [] ⟨[(1, (.ptr 1 0, [])), (2, (.ptr 2 0, [])), (3, (.ptr 3 0, []))], [(1, .cells [.int .i64 c163_.gKind, .str c163_.gName, .int .i64 c163_.gNum, .sl (List.map GTerm.c c163_.gKids)] []), (2, .cells [.int .i64 0, .str (bs []), .int .i64 0, .sl (List.map GTerm.c [])] [(3, .app 29)]), (3, .cells [.int .i64 c163_.gKind, .str (bs []), .int .i64 0, .sl (List.map GTerm.c [])] [(3, .app 29)])], []⟩ _ (by kernel_rfl) .nil ?_
      refine Wc.seq ?_
      refine Wc.region [] [] [1, 2, 3] [1, 2, 3] [] ⟨[(1, (.ptr 1 0, [])), (2, (.ptr 2 0, [])), (3, (.ptr 3 0, []))], [(1, .cells [.int .i64 c163_.gKind, .str c163_.gName, .int .i64 c163_.gNum, .sl (List.map GTerm.c c163_.gKids)] []), (2, .cells [.int .i64 0, .str (bs []), .int .i64 0, .sl (List.map GTerm.c [])] [(3, .app 29)]), (3, .cells [.int .i64 c163_.gKind, .str c163_.gName, .int .i64 0, .sl (List.map GTerm.c [])] [(3, .app 29)])], []⟩ _ (by kernel_rfl) .nil ?_
      refine Wc.seq ?_
      refine Wc.region [] [] [1, 2, 3] [1, 2, 3] [] ⟨[(1, (.ptr 1 0, [])), (2, (.ptr 2 0, [])), (3, (.ptr 3 0, []))], [(1, .cells [.int .i64 c163_.gKind, .str c163_.gName, .int .i64 c163_.gNum, .sl (List.map GTerm.c c163_.gKids)] []), (2, .cells [.int .i64 0, .str (bs []), .int .i64 0, .sl (List.map GTerm.c [])] [(3, .app 29)]), (3, .cells [.int .i64 c163_.gKind, .str c163_.gName, .int .i64 c163_.gNum, .sl (List.map GTerm.c [])] [(3, .app 29)])], []⟩ _ (by kernel_rfl) .nil ?_
      refine Wc.seq ?_
      obtain ⟨m164_, h290, h⟩ := obind h
      refine Wc.region [{}, {}, { r := some (.v (.sl (List.map GTerm.c m164_)) []) }] [] [2, 3] [2, 3] [] ⟨[(2, (.ptr 2 0, [])), (3, (.ptr 3 0, []))], [(2, .cells [.int .i64 0, .str (bs []), .int .i64 0, .sl (List.map GTerm.c [])] [(3, .app 29)]), (3, .cells [.int .i64 c163_.gKind, .str c163_.gName, .int .i64 c163_.gNum, .sl (List.map GTerm.c m164_)] [])], []⟩ _ (by kernel_rfl) (.cons (ih_plaws_toTermS h290) .nil) ?_
      refine Wc.seq ?_
      refine Wc.region [] [] [2] [2] [] ⟨[(2, (.ptr 2 0, []))], [(2, .cells [.int .i64 c163_.gKind, .str c163_.gName, .int .i64 c163_.gNum, .sl (List.map GTerm.c m164_)] [])], []⟩ _ (by kernel_rfl) .nil ?_
      refine Wc.ret ?_
      obtain rfl := Option.some.inj h
      exact ⟨.inl rfl, by kernel_rfl, by kernel_rfl⟩
    · intro a165_ r h
      rw [plaws_toTermS] at h
      refine FnO.of Tryd.func12 (rfl : Tryd.f12.body = some _) (Nat.le_of_ble_eq_true (by kernel_rfl)) (Nat.le_of_ble_eq_true (by kernel_rfl)) ?_
      intro w0 X0 Fin pv0 pb gt
      refine Wc.seq ?_
      refine Wc.region [] [] [0] [] [] ⟨[(0, (.v (.sl (List.map GTerm.c a165_)), []))], [], []⟩ _ (by kernel_rfl) .nil ?_
      refine Wc.seq ?_
      obtain ⟨h291, h⟩ := oguard h
      refine Wc.region [{}, { v := some (.int .i64 (a165_.length : Int)) }, { c := some (List.map GTerm.c (List.replicate ((a165_.length : Int)).toNat (GTerm.mk 0 (bs []) 0 []))) }, { tk := [7], fx := [.ag (.t 7 0)] }] [] [0, 3] [] [] ⟨[(0, (.v (.sl (List.map GTerm.c a165_)), [])), (3, (.v (.slx), [(0, .ex 29 false (List.map GTerm.c (List.replicate ((a165_.length : Int)).toNat (GTerm.mk 0 (bs []) 0 []))))]))], [], []⟩ _ (by kernel_rfl) (.cons (len_obl GTerm.c a165_) (.cons (rep_re (c := GTerm.c) (z := (GTerm.mk 0 (bs []) 0 [])) (GTerm.c_eq (GTerm.mk 0 (bs []) 0 [])) ((a165_.length : Int)).toNat) (.cons (ms_obl h291) .nil))) ?_
      refine Wc.seq ?_
      refine Wc.seq ?_
      refine Wc.region [] [] [0, 3, 4] [] [] ⟨[(0, (.v (.sl (List.map GTerm.c a165_)), [])), (3, (.v (.slx), [(0, .ex 29 false (List.map GTerm.c (List.replicate ((a165_.length : Int)).toNat (GTerm.mk 0 (bs []) 0 []))))])), (4, (.v (.int .i64 0), []))], [], []⟩ _ (by kernel_rfl) .nil ?_
      obtain ⟨out1, h292, h⟩ := obind h
      refine Wc.lastJ (fun st => ∃ (a168_ : List GTerm), out1 = .done a168_ ∧ st = ⟨[(3, (.v (.slx), [(0, .ex 29 false (List.map GTerm.c a168_))]))], [], []⟩) ?_ ?_
      · refine Wc.block ?_
        refine Wc.loop (fun m st => ∃ (a166_ : List GTerm) (b167_ : Int), st = ⟨[(0, (.v (.sl (List.map GTerm.c a165_)), [])), (3, (.v (.slx), [(0, .ex 29 false (List.map GTerm.c a166_))])), (4, (.v (.int .i64 b167_), []))], [], []⟩ ∧ plaws_toTermS_L1 k (plaws_toTerm k) (plaws_toTermS k) a165_ m a166_ b167_ = some out1) ?_ k ⟨_, _, rfl, h292⟩
        rintro m st ⟨a166_, b167_, rfl, h292⟩
        cases m with
        | zero => exact (onone h292).elim
        | succ m =>
          refine Wc.seq ?_
          refine Wc.seq ?_
          refine Wc.region [{}, {}, { v := some (.int .i64 (a165_.length : Int)) }] [] [0, 3, 4, 11] [] [] ⟨[(0, (.v (.sl (List.map GTerm.c a165_)), [])), (3, (.v (.slx), [(0, .ex 29 false (List.map GTerm.c a166_))])), (4, (.v (.int .i64 b167_), [])), (11, (.v (.bool (decide (b167_ < (a165_.length : Int)))), []))], [], []⟩ _ (by kernel_rfl) (.cons (len_obl GTerm.c a165_) .nil) ?_
          rcases oif h292 with ⟨h293, h292⟩ | ⟨h293, h292⟩
          · refine Wc.condT h293 (by kernel_rfl) ?_
            refine Wc.fix (st' := ⟨[(0, (.v (.sl (List.map GTerm.c a165_)), [])), (3, (.v (.slx), [(0, .ex 29 false (List.map GTerm.c a166_))])), (4, (.v (.int .i64 b167_), []))], [], []⟩) [] [0, 3, 4] [] [] (by kernel_rfl) ?_
            refine Wc.skip ?_
            refine Wc.seq ?_
            refine Wc.block ?_
            obtain ⟨c169_, h294, h292⟩ := obind h292
            obtain ⟨c170_, h295, h292⟩ := obind h292
            obtain ⟨c171_, h296, h292⟩ := obind h292
            refine Wc.region [{}, {}, {}, {}, { v := some (.vptr [.int .i64 c169_.gKind, .str c169_.gName, .int .i64 c169_.gNum, .sl (List.map GTerm.c c169_.gKids)]) }, {}, { r := some (.v (.agg [.int .i64 c170_.gKind, .str c170_.gName, .int .i64 c170_.gNum, .sl (List.map GTerm.c c170_.gKids)]) []) }, {}, { c := some (List.map GTerm.c (a166_.set ((b167_).toNat) c170_)) }] [] [0, 3, 4] [] [] ⟨[(0, (.v (.sl (List.map GTerm.c a165_)), [])), (3, (.v (.slx), [(0, .ex 29 false (List.map GTerm.c (a166_.set ((b167_).toNat) c170_)))])), (4, (.v (.int .i64 b167_), []))], [], []⟩ _ (by kernel_rfl) (.cons (at_obl (c := GTerm.c) (GTerm.c_eq c169_) GTerm.c_len h294) (.cons (len_ok 4 [.int .i64 c169_.gKind, .str c169_.gName, .int .i64 c169_.gNum, .sl (List.map GTerm.c c169_.gKids)]) (.cons (ih_plaws_toTerm h295) (.cons (ix_obl (c := GTerm.c) GTerm.c_len h296) (.cons (mod_obl (off := 0) (new := [.int .i64 c170_.gKind, .str c170_.gName, .int .i64 c170_.gNum, .sl (List.map GTerm.c c170_.gKids)]) (c := GTerm.c) (GTerm.c_eq c171_) (GTerm.c_eq c170_) (at'_spec h296).2 rfl) (.cons (st_obl (sz := 4) (off := 0) (s := 4) (c := GTerm.c) (GTerm.c_eq c171_) (at'_spec h296).2 rfl (Nat.le_of_ble_eq_true rfl)) .nil)))))) ?_
            refine Wc.region [] [] [0, 3, 4] [] [] ⟨[(0, (.v (.sl (List.map GTerm.c a165_)), [])), (3, (.v (.slx), [(0, .ex 29 false (List.map GTerm.c (a166_.set ((b167_).toNat) c170_)))])), (4, (.v (.int .i64 (wr.i64 (b167_ + 1))), []))], [], []⟩ _ (by kernel_rfl) .nil ?_
            exact ⟨_, Nat.lt_succ_self _, _, _, rfl, h292⟩
          · refine Wc.condF h293 (by kernel_rfl) ?_
            refine Wc.fix (st' := ⟨[(3, (.v (.slx), [(0, .ex 29 false (List.map GTerm.c a166_))]))], [], []⟩) [] [3] [] [] (by kernel_rfl) ?_
            refine Wc.exit ?_
            obtain rfl := Option.some.inj h292
            exact ⟨_, rfl, rfl⟩
      · rintro st ⟨a168_, rfl, rfl⟩
        refine Wc.seq ?_
        refine Wc.region [{ tk := [3] }, { tk := [22] }] [] [2] [] [] ⟨[(2, (.v (.slx), [(0, .ex 29 false (List.map GTerm.c a168_))]))], [], []⟩ _ (by kernel_rfl) .nil ?_
        refine Wc.fix (st' := ⟨[(2, (.v (.sl (List.map GTerm.c a168_)), []))], [], []⟩) [.sh (.t 2 0)] [2] [] [] (by kernel_rfl) ?_
        refine Wc.ret ?_
        obtain rfl := Option.some.inj h
        exact ⟨.inl rfl, by kernel_rfl, by kernel_rfl⟩
theorem claws_toTerm {k : Nat} {c163_ : GTerm} {r : GTerm} (h : plaws_toTerm k c163_ = some r) : FnO Tryd.prog 6 [.v (.agg [.int .i64 c163_.gKind, .str c163_.gName, .int .i64 c163_.gNum, .sl (List.map GTerm.c c163_.gKids)]) []] (.v (.agg [.int .i64 r.gKind, .str r.gName, .int .i64 r.gNum, .sl (List.map GTerm.c r.gKids)]) []) [] := (all_plaws_toTerm k).1 h
theorem claws_toTermS {k : Nat} {a165_ : List GTerm} {r : (List GTerm)} (h : plaws_toTermS k a165_ = some r) : FnO Tryd.prog 12 [.v (.sl (List.map GTerm.c a165_)) []] (.v (.sl (List.map GTerm.c r)) []) [] := (all_plaws_toTerm k).2 h

/-- impl.within -/
def pimpl_within (k : Nat) (b172_ : Int) (b173_ : Int) (b174_ : Int) : Option Bool :=
  if (decide (b172_ ≥ b173_)) = true then
    some (decide (b172_ ≤ b174_))
  else
    some false
theorem cimpl_within {k : Nat} {b172_ : Int} {b173_ : Int} {b174_ : Int} {r : Bool} (h : pimpl_within k b172_ b173_ b174_ = some r) : FnO Tryd.prog 32 [.v (.int .i64 b172_) [], .v (.int .i64 b173_) [], .v (.int .i64 b174_) []] (.v (.bool r) []) [] := by
  refine FnO.of Tryd.func32 (rfl : Tryd.f32.body = some _) (Nat.le_of_ble_eq_true (by kernel_rfl)) (Nat.le_of_ble_eq_true (by kernel_rfl)) ?_
  intro w0 X0 Fin pv0 pb gt
  unfold pimpl_within at h
  refine Wc.seq ?_
  refine Wc.region [] [] [0, 1, 2] [] [] ⟨[(0, (.v (.int .i64 b172_), [])), (1, (.v (.int .i64 b173_), [])), (2, (.v (.int .i64 b174_), []))], [], []⟩ _ (by kernel_rfl) .nil ?_
  refine Wc.seq ?_
  rcases oif h with ⟨h297, h⟩ | ⟨h297, h⟩
  · refine Wc.region [{}, {}, {}, { re := some (.bool true) }] [] [6] [] [] ⟨[(6, (.v (.bool (decide (b172_ ≤ b174_))), []))], [], []⟩ _ (by kernel_rfl) (.cons (congrArg AV.bool h297) .nil) ?_
    refine Wc.ret ?_
    obtain rfl := Option.some.inj h
    exact ⟨.inl rfl, by kernel_rfl, by kernel_rfl⟩
  · refine Wc.region [{}, {}, {}, { re := some (.bool false) }] [] [6] [] [] ⟨[(6, (.v (.bool false), []))], [], []⟩ _ (by kernel_rfl) (.cons (congrArg AV.bool h297) .nil) ?_
    refine Wc.ret ?_
    obtain rfl := Option.some.inj h
    exact ⟨.inl rfl, by kernel_rfl, by kernel_rfl⟩

def pimpl_nameOk_L1 (k : Nat) (d175_ : ByteArray) : Nat → Int → Option (Out Bool Unit)
  | 0, _ => none
  | m + 1, b176_ =>
    if (decide (b176_ < (d175_.size : Int))) = true then
      if 0 ≤ b176_ ∧ (b176_).toNat < d175_.size then
        (pimpl_within k (wr.i64 (bt d175_ b176_)) 33 126).bind fun e177_ =>
        if (!e177_) = true then
          some (.ret false)
        else
          if 0 ≤ b176_ ∧ (b176_).toNat < d175_.size then
            if ((bt d175_ b176_) == 39) = true then
              some (.ret false)
            else
              if 0 ≤ b176_ ∧ (b176_).toNat < d175_.size then
                if ((bt d175_ b176_) == 34) = true then
                  some (.ret false)
                else
                  pimpl_nameOk_L1 k d175_ m (wr.i64 (b176_ + 1))
              else none
          else none
      else none
    else
      some (.done ())
/-- impl.nameOk -/
def pimpl_nameOk (k : Nat) (d175_ : ByteArray) : Option Bool :=
  (pimpl_nameOk_L1 k d175_ k 0).bind fun out1 => match out1 with
  | .ret r => some r
  | .done () =>
    (pimpl_within k (d175_.size : Int) 1 20).bind fun e178_ =>
    some e178_
theorem cimpl_nameOk {k : Nat} {d175_ : ByteArray} {r : Bool} (h : pimpl_nameOk k d175_ = some r) : FnO Tryd.prog 33 [.v (.str d175_) []] (.v (.bool r) []) [] := by
  refine FnO.of Tryd.func33 (rfl : Tryd.f33.body = some _) (Nat.le_of_ble_eq_true (by kernel_rfl)) (Nat.le_of_ble_eq_true (by kernel_rfl)) ?_
  intro w0 X0 Fin pv0 pb gt
  unfold pimpl_nameOk at h
  refine Wc.seq ?_
  refine Wc.region [] [] [0] [] [] ⟨[(0, (.v (.str d175_), []))], [], []⟩ _ (by kernel_rfl) .nil ?_
  refine Wc.seq ?_
  refine Wc.seq ?_
  refine Wc.region [] [] [0, 3] [] [] ⟨[(0, (.v (.str d175_), [])), (3, (.v (.int .i64 0), []))], [], []⟩ _ (by kernel_rfl) .nil ?_
  obtain ⟨out1, h298, h⟩ := obind h
  refine Wc.lastJ (fun st => out1 = .done () ∧ st = ⟨[(0, (.v (.str d175_), []))], [], []⟩) ?_ ?_
  · refine Wc.block ?_
    refine Wc.loop (fun m st => ∃ (b176_ : Int), st = ⟨[(0, (.v (.str d175_), [])), (3, (.v (.int .i64 b176_), []))], [], []⟩ ∧ pimpl_nameOk_L1 k d175_ m b176_ = some out1) ?_ k ⟨_, rfl, h298⟩
    rintro m st ⟨b176_, rfl, h298⟩
    cases m with
    | zero => exact (onone h298).elim
    | succ m =>
      refine Wc.seq ?_
      refine Wc.seq ?_
      refine Wc.region [] [] [0, 3, 7] [] [] ⟨[(0, (.v (.str d175_), [])), (3, (.v (.int .i64 b176_), [])), (7, (.v (.bool (decide (b176_ < (d175_.size : Int)))), []))], [], []⟩ _ (by kernel_rfl) .nil ?_
      rcases oif h298 with ⟨h299, h298⟩ | ⟨h299, h298⟩
      · refine Wc.condT h299 (by kernel_rfl) ?_
        refine Wc.fix (st' := ⟨[(0, (.v (.str d175_), [])), (3, (.v (.int .i64 b176_), []))], [], []⟩) [] [0, 3] [] [] (by kernel_rfl) ?_
        refine Wc.skip ?_
        refine Wc.seq ?_
        refine Wc.block ?_
        refine Wc.seq ?_
        obtain ⟨h300, h298⟩ := oguard h298
        obtain ⟨e177_, h301, h298⟩ := obind h298
        rcases oif h298 with ⟨h302, h298⟩ | ⟨h302, h298⟩
        · refine Wc.region [{}, {}, {}, {}, { r := some (.v (.bool e177_) []) }, {}, { re := some (.bool true) }] [] [0, 3, 27] [] [] ⟨[(0, (.v (.str d175_), [])), (3, (.v (.int .i64 b176_), [])), (27, (.v (.bool true), []))], [], []⟩ _ (by kernel_rfl) (.cons h300 (.cons (cimpl_within h301) (.cons (congrArg AV.bool h302) .nil))) ?_
          refine Wc.condT rfl (by kernel_rfl) ?_
          refine Wc.seq ?_
          refine Wc.region [] [] [2] [] [] ⟨[(2, (.v (.bool false), []))], [], []⟩ _ (by kernel_rfl) .nil ?_
          refine Wc.ret ?_
          obtain rfl := Option.some.inj h298
          obtain rfl := Option.some.inj h
          exact ⟨.inl rfl, by kernel_rfl, by kernel_rfl⟩
        · obtain ⟨h303, h298⟩ := oguard h298
          rcases oif h298 with ⟨h304, h298⟩ | ⟨h304, h298⟩
          · refine Wc.region [{}, {}, {}, {}, { r := some (.v (.bool e177_) []) }, {}, { re := some (.bool false) }, {}, {}, {}, {}, {}, { re := some (.bool true) }] [] [0, 3, 27] [] [] ⟨[(0, (.v (.str d175_), [])), (3, (.v (.int .i64 b176_), [])), (27, (.v (.bool true), []))], [], []⟩ _ (by kernel_rfl) (.cons h300 (.cons (cimpl_within h301) (.cons (congrArg AV.bool h302) (.cons h303 (.cons (congrArg AV.bool h304) .nil))))) ?_
            refine Wc.condT rfl (by kernel_rfl) ?_
            refine Wc.seq ?_
            refine Wc.region [] [] [2] [] [] ⟨[(2, (.v (.bool false), []))], [], []⟩ _ (by kernel_rfl) .nil ?_
            refine Wc.ret ?_
            obtain rfl := Option.some.inj h298
            obtain rfl := Option.some.inj h
            exact ⟨.inl rfl, by kernel_rfl, by kernel_rfl⟩
          · obtain ⟨h305, h298⟩ := oguard h298
            refine Wc.region [{}, {}, {}, {}, { r := some (.v (.bool e177_) []) }, {}, { re := some (.bool false) }, {}, {}, {}, {}, {}, { re := some (.bool false) }] [] [0, 3, 27] [] [] ⟨[(0, (.v (.str d175_), [])), (3, (.v (.int .i64 b176_), [])), (27, (.v (.bool ((bt d175_ b176_) == 34)), []))], [], []⟩ _ (by kernel_rfl) (.cons h300 (.cons (cimpl_within h301) (.cons (congrArg AV.bool h302) (.cons h303 (.cons (congrArg AV.bool h304) (.cons h305 .nil)))))) ?_
            rcases oif h298 with ⟨h306, h298⟩ | ⟨h306, h298⟩
            · refine Wc.condT h306 (by kernel_rfl) ?_
              refine Wc.seq ?_
              refine Wc.region [] [] [2] [] [] ⟨[(2, (.v (.bool false), []))], [], []⟩ _ (by kernel_rfl) .nil ?_
              refine Wc.ret ?_
              obtain rfl := Option.some.inj h298
              obtain rfl := Option.some.inj h
              exact ⟨.inl rfl, by kernel_rfl, by kernel_rfl⟩
            · refine Wc.condF h306 (by kernel_rfl) ?_
              refine Wc.fix (st' := ⟨[(0, (.v (.str d175_), [])), (3, (.v (.int .i64 b176_), []))], [], []⟩) [] [0, 3] [] [] (by kernel_rfl) ?_
              refine Wc.skip ?_
              refine Wc.region [] [] [0, 3] [] [] ⟨[(0, (.v (.str d175_), [])), (3, (.v (.int .i64 (wr.i64 (b176_ + 1))), []))], [], []⟩ _ (by kernel_rfl) .nil ?_
              exact ⟨_, Nat.lt_succ_self _, _, rfl, h298⟩
      · refine Wc.condF h299 (by kernel_rfl) ?_
        refine Wc.fix (st' := ⟨[(0, (.v (.str d175_), []))], [], []⟩) [] [0] [] [] (by kernel_rfl) ?_
        refine Wc.exit ?_
        obtain rfl := Option.some.inj h298
        exact ⟨rfl, rfl⟩
  · rintro st ⟨rfl, rfl⟩
    refine Wc.seq ?_
    obtain ⟨e178_, h307, h⟩ := obind h
    refine Wc.region [{}, {}, { r := some (.v (.bool e178_) []) }] [] [2] [] [] ⟨[(2, (.v (.bool e178_), []))], [], []⟩ _ (by kernel_rfl) (.cons (cimpl_within h307) .nil) ?_
    refine Wc.ret ?_
    obtain rfl := Option.some.inj h
    exact ⟨.inl rfl, by kernel_rfl, by kernel_rfl⟩

def pimpl_sized_L2 (k : Nat) (rimpl_sized : GTerm → Int → Option Int) (c179_ : GTerm) (b180_ : Int) : Nat → Int → Int → Option (Out Int Int)
  | 0, _, _ => none
  | m + 1, b181_, b182_ =>
    if (decide (b182_ < (c179_.gKids.length : Int))) = true then
      (at' c179_.gKids b182_).bind fun c184_ =>
      (rimpl_sized c184_ (wr.i64 (b180_ + 1))).bind fun b185_ =>
      if (decide ((wr.i64 (b181_ + b185_)) > 400)) = true then
        some (.ret 401)
      else
        pimpl_sized_L2 k rimpl_sized c179_ b180_ m (wr.i64 (b181_ + b185_)) (wr.i64 (b182_ + 1))
    else
      some (.done b181_)
def pimpl_sized_J1 (k : Nat) (rimpl_sized : GTerm → Int → Option Int) (c179_ : GTerm) (b180_ : Int) : Option Int :=
  (pimpl_sized_L2 k rimpl_sized c179_ b180_ k 1 0).bind fun out2 => match out2 with
  | .ret r => some r
  | .done b183_ =>
    some b183_
mutual
/-- impl.sized -/
def pimpl_sized : Nat → GTerm → Int → Option Int
  | 0, _, _ => none
  | k + 1, c179_, b180_ =>
    if (decide (b180_ > 40)) = true then
      some 401
    else
      if (c179_.gKind == 1) = true then
        if (!(sEq c179_.gName (bs []))) = true then
          some 401
        else
          (pimpl_within k c179_.gNum 0 99999).bind fun e186_ =>
          if (!e186_) = true then
            some 401
          else
            if (decide ((c179_.gKids.length : Int) > 0)) = true then
              some 401
            else
              pimpl_sized_J1 k (pimpl_sized k) c179_ b180_
      else
        if (c179_.gKind == 2) = true then
          (pimpl_nameOk k c179_.gName).bind fun e187_ =>
          if (!e187_) = true then
            some 401
          else
            if (c179_.gNum != 0) = true then
              some 401
            else
              if (decide ((c179_.gKids.length : Int) > 0)) = true then
                some 401
              else
                pimpl_sized_J1 k (pimpl_sized k) c179_ b180_
        else
          if (c179_.gKind == 3) = true then
            if (!(sEq c179_.gName (bs []))) = true then
              some 401
            else
              (pimpl_within k c179_.gNum (-999999999) 999999999).bind fun e188_ =>
              if (!e188_) = true then
                some 401
              else
                if (decide ((c179_.gKids.length : Int) > 0)) = true then
                  some 401
                else
                  pimpl_sized_J1 k (pimpl_sized k) c179_ b180_
          else
            if (c179_.gKind == 4) = true then
              (pimpl_nameOk k c179_.gName).bind fun e189_ =>
              if (!e189_) = true then
                some 401
              else
                if (c179_.gNum != 0) = true then
                  some 401
                else
                  (pimpl_within k (c179_.gKids.length : Int) 1 5).bind fun e190_ =>
                  if (!e190_) = true then
                    some 401
                  else
                    pimpl_sized_J1 k (pimpl_sized k) c179_ b180_
            else
              some 401
end
set_option maxHeartbeats 4000000 in
theorem all_pimpl_sized : ∀ k : Nat, (∀ {c179_ : GTerm} {b180_ : Int} {r : Int}, pimpl_sized k c179_ b180_ = some r → FnO Tryd.prog 24 [.v (.agg [.int .i64 c179_.gKind, .str c179_.gName, .int .i64 c179_.gNum, .sl (List.map GTerm.c c179_.gKids)]) [], .v (.int .i64 b180_) []] (.v (.int .i64 r) []) []) := by
  intro k
  induction k with
  | zero =>
    · intro c179_ b180_ r h
      exact (onone (by rw [pimpl_sized] at h; exact h)).elim
  | succ k ih =>
    have ih_pimpl_sized := @ih
    · intro c179_ b180_ r h
      rw [pimpl_sized] at h
      refine FnO.of Tryd.func24 (rfl : Tryd.f24.body = some _) (Nat.le_of_ble_eq_true (by kernel_rfl)) (Nat.le_of_ble_eq_true (by kernel_rfl)) ?_
      intro w0 X0 Fin pv0 pb gt
      refine Wc.seq ?_
      refine Wc.region [] [] [1, 2] [2] [] ⟨[(1, (.v (.int .i64 b180_), [])), (2, (.ptr 2 0, []))], [(2, .cells [.int .i64 c179_.gKind, .str c179_.gName, .int .i64 c179_.gNum, .sl (List.map GTerm.c c179_.gKids)] [])], []⟩ _ (by kernel_rfl) .nil ?_
      refine Wc.seq ?_
      refine Wc.seq ?_
      refine Wc.region [] [] [1, 2, 9] [2] [] ⟨[(1, (.v (.int .i64 b180_), [])), (2, (.ptr 2 0, [])), (9, (.v (.bool (decide (b180_ > 40))), []))], [(2, .cells [.int .i64 c179_.gKind, .str c179_.gName, .int .i64 c179_.gNum, .sl (List.map GTerm.c c179_.gKids)] [])], []⟩ _ (by kernel_rfl) .nil ?_
      rcases oif h with ⟨h308, h⟩ | ⟨h308, h⟩
      · refine Wc.condT h308 (by kernel_rfl) ?_
        refine Wc.seq ?_
        refine Wc.region [] [] [4] [] [] ⟨[(4, (.v (.int .i64 401), []))], [], []⟩ _ (by kernel_rfl) .nil ?_
        refine Wc.ret ?_
        obtain rfl := Option.some.inj h
        exact ⟨.inl rfl, by kernel_rfl, by kernel_rfl⟩
      · refine Wc.condF h308 (by kernel_rfl) ?_
        refine Wc.fix (st' := ⟨[(1, (.v (.int .i64 b180_), [])), (2, (.ptr 2 0, []))], [(2, .cells [.int .i64 c179_.gKind, .str c179_.gName, .int .i64 c179_.gNum, .sl (List.map GTerm.c c179_.gKids)] [])], []⟩) [] [1, 2] [2] [] (by kernel_rfl) ?_
        refine Wc.skip ?_
        refine Wc.seqJ (fun st => st = ⟨[(1, (.v (.int .i64 b180_), [])), (2, (.ptr 2 0, []))], [(2, .cells [.int .i64 c179_.gKind, .str c179_.gName, .int .i64 c179_.gNum, .sl (List.map GTerm.c c179_.gKids)] [])], []⟩ ∧ pimpl_sized_J1 k (pimpl_sized k) c179_ b180_ = some r) ?_ ?_
        · refine Wc.seq ?_
          refine Wc.region [] [] [1, 2, 11] [2] [] ⟨[(1, (.v (.int .i64 b180_), [])), (2, (.ptr 2 0, [])), (11, (.v (.int .i64 c179_.gKind), []))], [(2, .cells [.int .i64 c179_.gKind, .str c179_.gName, .int .i64 c179_.gNum, .sl (List.map GTerm.c c179_.gKids)] [])], []⟩ _ (by kernel_rfl) .nil ?_
          refine Wc.block ?_
          refine Wc.seq ?_
          refine Wc.region [] [] [1, 2, 11, 12] [2] [] ⟨[(1, (.v (.int .i64 b180_), [])), (2, (.ptr 2 0, [])), (11, (.v (.int .i64 c179_.gKind), [])), (12, (.v (.bool (c179_.gKind == 1)), []))], [(2, .cells [.int .i64 c179_.gKind, .str c179_.gName, .int .i64 c179_.gNum, .sl (List.map GTerm.c c179_.gKids)] [])], []⟩ _ (by kernel_rfl) .nil ?_
          rcases oif h with ⟨h314, h⟩ | ⟨h314, h⟩
          · refine Wc.condT h314 (by kernel_rfl) ?_
            refine Wc.seq ?_
            rcases oif h with ⟨h315, h⟩ | ⟨h315, h⟩
            · refine Wc.region [{}, {}, {}, { re := some (.bool true) }] [] [1, 2, 28] [2] [] ⟨[(1, (.v (.int .i64 b180_), [])), (2, (.ptr 2 0, [])), (28, (.v (.bool true), []))], [(2, .cells [.int .i64 c179_.gKind, .str c179_.gName, .int .i64 c179_.gNum, .sl (List.map GTerm.c c179_.gKids)] [])], []⟩ _ (by kernel_rfl) (.cons (congrArg AV.bool h315) .nil) ?_
              refine Wc.condT rfl (by kernel_rfl) ?_
              refine Wc.seq ?_
              refine Wc.region [] [] [4] [] [] ⟨[(4, (.v (.int .i64 401), []))], [], []⟩ _ (by kernel_rfl) .nil ?_
              refine Wc.ret ?_
              obtain rfl := Option.some.inj h
              exact ⟨.inl rfl, by kernel_rfl, by kernel_rfl⟩
            · obtain ⟨e186_, h316, h⟩ := obind h
              rcases oif h with ⟨h317, h⟩ | ⟨h317, h⟩
              · refine Wc.region [{}, {}, {}, { re := some (.bool false) }, {}, {}, { r := some (.v (.bool e186_) []) }, {}, {}, { re := some (.bool true) }] [] [1, 2, 28] [2] [] ⟨[(1, (.v (.int .i64 b180_), [])), (2, (.ptr 2 0, [])), (28, (.v (.bool true), []))], [(2, .cells [.int .i64 c179_.gKind, .str c179_.gName, .int .i64 c179_.gNum, .sl (List.map GTerm.c c179_.gKids)] [])], []⟩ _ (by kernel_rfl) (.cons (congrArg AV.bool h315) (.cons (cimpl_within h316) (.cons (congrArg AV.bool h317) .nil))) ?_
                refine Wc.condT rfl (by kernel_rfl) ?_
                refine Wc.seq ?_
                refine Wc.region [] [] [4] [] [] ⟨[(4, (.v (.int .i64 401), []))], [], []⟩ _ (by kernel_rfl) .nil ?_
                refine Wc.ret ?_
                obtain rfl := Option.some.inj h
                exact ⟨.inl rfl, by kernel_rfl, by kernel_rfl⟩
              · refine Wc.region [{}, {}, {}, { re := some (.bool false) }, {}, {}, { r := some (.v (.bool e186_) []) }, {}, {}, { re := some (.bool false) }, {}, {}, { v := some (.int .i64 (c179_.gKids.length : Int)) }] [] [1, 2, 28] [2] [] ⟨[(1, (.v (.int .i64 b180_), [])), (2, (.ptr 2 0, [])), (28, (.v (.bool (decide ((c179_.gKids.length : Int) > 0))), []))], [(2, .cells [.int .i64 c179_.gKind, .str c179_.gName, .int .i64 c179_.gNum, .sl (List.map GTerm.c c179_.gKids)] [])], []⟩ _ (by kernel_rfl) (.cons (congrArg AV.bool h315) (.cons (cimpl_within h316) (.cons (congrArg AV.bool h317) (.cons (len_obl GTerm.c c179_.gKids) .nil)))) ?_
                rcases oif h with ⟨h318, h⟩ | ⟨h318, h⟩
                · refine Wc.condT h318 (by kernel_rfl) ?_
                  refine Wc.seq ?_
                  refine Wc.region [] [] [4] [] [] ⟨[(4, (.v (.int .i64 401), []))], [], []⟩ _ (by kernel_rfl) .nil ?_
                  refine Wc.ret ?_
                  obtain rfl := Option.some.inj h
                  exact ⟨.inl rfl, by kernel_rfl, by kernel_rfl⟩
                · refine Wc.condF h318 (by kernel_rfl) ?_
                  refine Wc.fix (st' := ⟨[(1, (.v (.int .i64 b180_), [])), (2, (.ptr 2 0, []))], [(2, .cells [.int .i64 c179_.gKind, .str c179_.gName, .int .i64 c179_.gNum, .sl (List.map GTerm.c c179_.gKids)] [])], []⟩) [] [1, 2] [2] [] (by kernel_rfl) ?_
                  refine Wc.skip ?_
                  exact ⟨rfl, h⟩
          · refine Wc.condF h314 (by kernel_rfl) ?_
            refine Wc.seq ?_
            refine Wc.region [] [] [1, 2, 11, 29] [2] [] ⟨[(1, (.v (.int .i64 b180_), [])), (2, (.ptr 2 0, [])), (11, (.v (.int .i64 c179_.gKind), [])), (29, (.v (.bool (c179_.gKind == 2)), []))], [(2, .cells [.int .i64 c179_.gKind, .str c179_.gName, .int .i64 c179_.gNum, .sl (List.map GTerm.c c179_.gKids)] [])], []⟩ _ (by kernel_rfl) .nil ?_
            rcases oif h with ⟨h319, h⟩ | ⟨h319, h⟩
            · refine Wc.condT h319 (by kernel_rfl) ?_
              refine Wc.seq ?_
              obtain ⟨e187_, h320, h⟩ := obind h
              rcases oif h with ⟨h321, h⟩ | ⟨h321, h⟩
              · refine Wc.region [{}, {}, { r := some (.v (.bool e187_) []) }, {}, { re := some (.bool true) }] [] [1, 2, 45] [2] [] ⟨[(1, (.v (.int .i64 b180_), [])), (2, (.ptr 2 0, [])), (45, (.v (.bool true), []))], [(2, .cells [.int .i64 c179_.gKind, .str c179_.gName, .int .i64 c179_.gNum, .sl (List.map GTerm.c c179_.gKids)] [])], []⟩ _ (by kernel_rfl) (.cons (cimpl_nameOk h320) (.cons (congrArg AV.bool h321) .nil)) ?_
                refine Wc.condT rfl (by kernel_rfl) ?_
                refine Wc.seq ?_
                refine Wc.region [] [] [4] [] [] ⟨[(4, (.v (.int .i64 401), []))], [], []⟩ _ (by kernel_rfl) .nil ?_
                refine Wc.ret ?_
                obtain rfl := Option.some.inj h
                exact ⟨.inl rfl, by kernel_rfl, by kernel_rfl⟩
              · rcases oif h with ⟨h322, h⟩ | ⟨h322, h⟩
                · refine Wc.region [{}, {}, { r := some (.v (.bool e187_) []) }, {}, { re := some (.bool false) }, {}, {}, {}, {}, { re := some (.bool true) }] [] [1, 2, 45] [2] [] ⟨[(1, (.v (.int .i64 b180_), [])), (2, (.ptr 2 0, [])), (45, (.v (.bool true), []))], [(2, .cells [.int .i64 c179_.gKind, .str c179_.gName, .int .i64 c179_.gNum, .sl (List.map GTerm.c c179_.gKids)] [])], []⟩ _ (by kernel_rfl) (.cons (cimpl_nameOk h320) (.cons (congrArg AV.bool h321) (.cons (congrArg AV.bool h322) .nil))) ?_
                  refine Wc.condT rfl (by kernel_rfl) ?_
                  refine Wc.seq ?_
                  refine Wc.region [] [] [4] [] [] ⟨[(4, (.v (.int .i64 401), []))], [], []⟩ _ (by kernel_rfl) .nil ?_
                  refine Wc.ret ?_
                  obtain rfl := Option.some.inj h
                  exact ⟨.inl rfl, by kernel_rfl, by kernel_rfl⟩
                · refine Wc.region [{}, {}, { r := some (.v (.bool e187_) []) }, {}, { re := some (.bool false) }, {}, {}, {}, {}, { re := some (.bool false) }, {}, {}, { v := some (.int .i64 (c179_.gKids.length : Int)) }] [] [1, 2, 45] [2] [] ⟨[(1, (.v (.int .i64 b180_), [])), (2, (.ptr 2 0, [])), (45, (.v (.bool (decide ((c179_.gKids.length : Int) > 0))), []))], [(2, .cells [.int .i64 c179_.gKind, .str c179_.gName, .int .i64 c179_.gNum, .sl (List.map GTerm.c c179_.gKids)] [])], []⟩ _ (by kernel_rfl) (.cons (cimpl_nameOk h320) (.cons (congrArg AV.bool h321) (.cons (congrArg AV.bool h322) (.cons (len_obl GTerm.c c179_.gKids) .nil)))) ?_
                  rcases oif h with ⟨h323, h⟩ | ⟨h323, h⟩
                  · refine Wc.condT h323 (by kernel_rfl) ?_
                    refine Wc.seq ?_
                    refine Wc.region [] [] [4] [] [] ⟨[(4, (.v (.int .i64 401), []))], [], []⟩ _ (by kernel_rfl) .nil ?_
                    refine Wc.ret ?_
                    obtain rfl := Option.some.inj h
                    exact ⟨.inl rfl, by kernel_rfl, by kernel_rfl⟩
                  · refine Wc.condF h323 (by kernel_rfl) ?_
                    refine Wc.fix (st' := ⟨[(1, (.v (.int .i64 b180_), [])), (2, (.ptr 2 0, []))], [(2, .cells [.int .i64 c179_.gKind, .str c179_.gName, .int .i64 c179_.gNum, .sl (List.map GTerm.c c179_.gKids)] [])], []⟩) [] [1, 2] [2] [] (by kernel_rfl) ?_
                    refine Wc.skip ?_
                    exact ⟨rfl, h⟩
            · refine Wc.condF h319 (by kernel_rfl) ?_
              refine Wc.seq ?_
              refine Wc.region [] [] [1, 2, 11, 46] [2] [] ⟨[(1, (.v (.int .i64 b180_), [])), (2, (.ptr 2 0, [])), (11, (.v (.int .i64 c179_.gKind), [])), (46, (.v (.bool (c179_.gKind == 3)), []))], [(2, .cells [.int .i64 c179_.gKind, .str c179_.gName, .int .i64 c179_.gNum, .sl (List.map GTerm.c c179_.gKids)] [])], []⟩ _ (by kernel_rfl) .nil ?_
              rcases oif h with ⟨h324, h⟩ | ⟨h324, h⟩
              · refine Wc.condT h324 (by kernel_rfl) ?_
                refine Wc.seq ?_
                rcases oif h with ⟨h325, h⟩ | ⟨h325, h⟩
                · refine Wc.region [{}, {}, {}, { re := some (.bool true) }] [] [1, 2, 62] [2] [] ⟨[(1, (.v (.int .i64 b180_), [])), (2, (.ptr 2 0, [])), (62, (.v (.bool true), []))], [(2, .cells [.int .i64 c179_.gKind, .str c179_.gName, .int .i64 c179_.gNum, .sl (List.map GTerm.c c179_.gKids)] [])], []⟩ _ (by kernel_rfl) (.cons (congrArg AV.bool h325) .nil) ?_
                  refine Wc.condT rfl (by kernel_rfl) ?_
                  refine Wc.seq ?_
                  refine Wc.region [] [] [4] [] [] ⟨[(4, (.v (.int .i64 401), []))], [], []⟩ _ (by kernel_rfl) .nil ?_
                  refine Wc.ret ?_
                  obtain rfl := Option.some.inj h
                  exact ⟨.inl rfl, by kernel_rfl, by kernel_rfl⟩
                · obtain ⟨e188_, h326, h⟩ := obind h
                  rcases oif h with ⟨h327, h⟩ | ⟨h327, h⟩
                  · refine Wc.region [{}, {}, {}, { re := some (.bool false) }, {}, {}, { r := some (.v (.bool e188_) []) }, {}, {}, { re := some (.bool true) }] [] [1, 2, 62] [2] [] ⟨[(1, (.v (.int .i64 b180_), [])), (2, (.ptr 2 0, [])), (62, (.v (.bool true), []))], [(2, .cells [.int .i64 c179_.gKind, .str c179_.gName, .int .i64 c179_.gNum, .sl (List.map GTerm.c c179_.gKids)] [])], []⟩ _ (by kernel_rfl) (.cons (congrArg AV.bool h325) (.cons (cimpl_within h326) (.cons (congrArg AV.bool h327) .nil))) ?_
                    refine Wc.condT rfl (by kernel_rfl) ?_
                    refine Wc.seq ?_
                    refine Wc.region [] [] [4] [] [] ⟨[(4, (.v (.int .i64 401), []))], [], []⟩ _ (by kernel_rfl) .nil ?_
                    refine Wc.ret ?_
                    obtain rfl := Option.some.inj h
                    exact ⟨.inl rfl, by kernel_rfl, by kernel_rfl⟩
                  · refine Wc.region [{}, {}, {}, { re := some (.bool false) }, {}, {}, { r := some (.v (.bool e188_) []) }, {}, {}, { re := some (.bool false) }, {}, {}, { v := some (.int .i64 (c179_.gKids.length : Int)) }] [] [1, 2, 62] [2] [] ⟨[(1, (.v (.int .i64 b180_), [])), (2, (.ptr 2 0, [])), (62, (.v (.bool (decide ((c179_.gKids.length : Int) > 0))), []))], [(2, .cells [.int .i64 c179_.gKind, .str c179_.gName, .int .i64 c179_.gNum, .sl (List.map GTerm.c c179_.gKids)] [])], []⟩ _ (by kernel_rfl) (.cons (congrArg AV.bool h325) (.cons (cimpl_within h326) (.cons (congrArg AV.bool h327) (.cons (len_obl GTerm.c c179_.gKids) .nil)))) ?_
                    rcases oif h with ⟨h328, h⟩ | ⟨h328, h⟩
                    · refine Wc.condT h328 (by kernel_rfl) ?_
                      refine Wc.seq ?_
                      refine Wc.region [] [] [4] [] [] ⟨[(4, (.v (.int .i64 401), []))], [], []⟩ _ (by kernel_rfl) .nil ?_
                      refine Wc.ret ?_
                      obtain rfl := Option.some.inj h
                      exact ⟨.inl rfl, by kernel_rfl, by kernel_rfl⟩
                    · refine Wc.condF h328 (by kernel_rfl) ?_
                      refine Wc.fix (st' := ⟨[(1, (.v (.int .i64 b180_), [])), (2, (.ptr 2 0, []))], [(2, .cells [.int .i64 c179_.gKind, .str c179_.gName, .int .i64 c179_.gNum, .sl (List.map GTerm.c c179_.gKids)] [])], []⟩) [] [1, 2] [2] [] (by kernel_rfl) ?_
                      refine Wc.skip ?_
                      exact ⟨rfl, h⟩
              · refine Wc.condF h324 (by kernel_rfl) ?_
                refine Wc.seq ?_
                refine Wc.region [] [] [1, 2, 63] [2] [] ⟨[(1, (.v (.int .i64 b180_), [])), (2, (.ptr 2 0, [])), (63, (.v (.bool (c179_.gKind == 4)), []))], [(2, .cells [.int .i64 c179_.gKind, .str c179_.gName, .int .i64 c179_.gNum, .sl (List.map GTerm.c c179_.gKids)] [])], []⟩ _ (by kernel_rfl) .nil ?_
                rcases oif h with ⟨h329, h⟩ | ⟨h329, h⟩
                · refine Wc.condT h329 (by kernel_rfl) ?_
                  refine Wc.seq ?_
                  obtain ⟨e189_, h330, h⟩ := obind h
                  rcases oif h with ⟨h331, h⟩ | ⟨h331, h⟩
                  · refine Wc.region [{}, {}, { r := some (.v (.bool e189_) []) }, {}, { re := some (.bool true) }] [] [1, 2, 80] [2] [] ⟨[(1, (.v (.int .i64 b180_), [])), (2, (.ptr 2 0, [])), (80, (.v (.bool true), []))], [(2, .cells [.int .i64 c179_.gKind, .str c179_.gName, .int .i64 c179_.gNum, .sl (List.map GTerm.c c179_.gKids)] [])], []⟩ _ (by kernel_rfl) (.cons (cimpl_nameOk h330) (.cons (congrArg AV.bool h331) .nil)) ?_
                    refine Wc.condT rfl (by kernel_rfl) ?_
                    refine Wc.seq ?_
                    refine Wc.region [] [] [4] [] [] ⟨[(4, (.v (.int .i64 401), []))], [], []⟩ _ (by kernel_rfl) .nil ?_
                    refine Wc.ret ?_
                    obtain rfl := Option.some.inj h
                    exact ⟨.inl rfl, by kernel_rfl, by kernel_rfl⟩
                  · rcases oif h with ⟨h332, h⟩ | ⟨h332, h⟩
                    · refine Wc.region [{}, {}, { r := some (.v (.bool e189_) []) }, {}, { re := some (.bool false) }, {}, {}, {}, {}, { re := some (.bool true) }] [] [1, 2, 80] [2] [] ⟨[(1, (.v (.int .i64 b180_), [])), (2, (.ptr 2 0, [])), (80, (.v (.bool true), []))], [(2, .cells [.int .i64 c179_.gKind, .str c179_.gName, .int .i64 c179_.gNum, .sl (List.map GTerm.c c179_.gKids)] [])], []⟩ _ (by kernel_rfl) (.cons (cimpl_nameOk h330) (.cons (congrArg AV.bool h331) (.cons (congrArg AV.bool h332) .nil))) ?_
                      refine Wc.condT rfl (by kernel_rfl) ?_
                      refine Wc.seq ?_
                      refine Wc.region [] [] [4] [] [] ⟨[(4, (.v (.int .i64 401), []))], [], []⟩ _ (by kernel_rfl) .nil ?_
                      refine Wc.ret ?_
                      obtain rfl := Option.some.inj h
                      exact ⟨.inl rfl, by kernel_rfl, by kernel_rfl⟩
                    · obtain ⟨e190_, h333, h⟩ := obind h
                      refine Wc.region [{}, {}, { r := some (.v (.bool e189_) []) }, {}, { re := some (.bool false) }, {}, {}, {}, {}, { re := some (.bool false) }, {}, {}, { v := some (.int .i64 (c179_.gKids.length : Int)) }, { r := some (.v (.bool e190_) []) }] [] [1, 2, 80] [2] [] ⟨[(1, (.v (.int .i64 b180_), [])), (2, (.ptr 2 0, [])), (80, (.v (.bool (!e190_)), []))], [(2, .cells [.int .i64 c179_.gKind, .str c179_.gName, .int .i64 c179_.gNum, .sl (List.map GTerm.c c179_.gKids)] [])], []⟩ _ (by kernel_rfl) (.cons (cimpl_nameOk h330) (.cons (congrArg AV.bool h331) (.cons (congrArg AV.bool h332) (.cons (len_obl GTerm.c c179_.gKids) (.cons (cimpl_within h333) .nil))))) ?_
                      rcases oif h with ⟨h334, h⟩ | ⟨h334, h⟩
                      · refine Wc.condT h334 (by kernel_rfl) ?_
                        refine Wc.seq ?_
                        refine Wc.region [] [] [4] [] [] ⟨[(4, (.v (.int .i64 401), []))], [], []⟩ _ (by kernel_rfl) .nil ?_
                        refine Wc.ret ?_
                        obtain rfl := Option.some.inj h
                        exact ⟨.inl rfl, by kernel_rfl, by kernel_rfl⟩
                      · refine Wc.condF h334 (by kernel_rfl) ?_
                        refine Wc.fix (st' := ⟨[(1, (.v (.int .i64 b180_), [])), (2, (.ptr 2 0, []))], [(2, .cells [.int .i64 c179_.gKind, .str c179_.gName, .int .i64 c179_.gNum, .sl (List.map GTerm.c c179_.gKids)] [])], []⟩) [] [1, 2] [2] [] (by kernel_rfl) ?_
                        refine Wc.skip ?_
                        exact ⟨rfl, h⟩
                · refine Wc.condF h329 (by kernel_rfl) ?_
                  refine Wc.seq ?_
                  refine Wc.region [] [] [4] [] [] ⟨[(4, (.v (.int .i64 401), []))], [], []⟩ _ (by kernel_rfl) .nil ?_
                  refine Wc.ret ?_
                  obtain rfl := Option.some.inj h
                  exact ⟨.inl rfl, by kernel_rfl, by kernel_rfl⟩
        · rintro st ⟨rfl, h⟩
          refine Wc.seq ?_
          refine Wc.region [] [] [1, 2, 5] [2] [] ⟨[(1, (.v (.int .i64 b180_), [])), (2, (.ptr 2 0, [])), (5, (.v (.int .i64 1), []))], [(2, .cells [.int .i64 c179_.gKind, .str c179_.gName, .int .i64 c179_.gNum, .sl (List.map GTerm.c c179_.gKids)] [])], []⟩ _ (by kernel_rfl) .nil ?_
          refine Wc.seq ?_
          refine Wc.seq ?_
          refine Wc.region [{}, {}, { v := some (.int .i64 (c179_.gKids.length : Int)) }] [] [1, 5, 82, 83, 84] [] [] ⟨[(1, (.v (.int .i64 b180_), [])), (5, (.v (.int .i64 1), [])), (82, (.v (.sl (List.map GTerm.c c179_.gKids)), [])), (83, (.v (.int .i64 (c179_.gKids.length : Int)), [])), (84, (.v (.int .i64 0), []))], [], []⟩ _ (by kernel_rfl) (.cons (len_obl GTerm.c c179_.gKids) .nil) ?_
          obtain ⟨out2, h309, h⟩ := obind h
          refine Wc.lastJ (fun st => ∃ (b183_ : Int), out2 = .done b183_ ∧ st = ⟨[(5, (.v (.int .i64 b183_), []))], [], []⟩) ?_ ?_
          · refine Wc.block ?_
            refine Wc.loop (fun m st => ∃ (b181_ : Int) (b182_ : Int), st = ⟨[(1, (.v (.int .i64 b180_), [])), (5, (.v (.int .i64 b181_), [])), (82, (.v (.sl (List.map GTerm.c c179_.gKids)), [])), (83, (.v (.int .i64 (c179_.gKids.length : Int)), [])), (84, (.v (.int .i64 b182_), []))], [], []⟩ ∧ pimpl_sized_L2 k (pimpl_sized k) c179_ b180_ m b181_ b182_ = some out2) ?_ k ⟨_, _, rfl, h309⟩
            rintro m st ⟨b181_, b182_, rfl, h309⟩
            cases m with
            | zero => exact (onone h309).elim
            | succ m =>
              refine Wc.seq ?_
              refine Wc.region [] [] [1, 5, 82, 83, 84, 85] [] [] ⟨[(1, (.v (.int .i64 b180_), [])), (5, (.v (.int .i64 b181_), [])), (82, (.v (.sl (List.map GTerm.c c179_.gKids)), [])), (83, (.v (.int .i64 (c179_.gKids.length : Int)), [])), (84, (.v (.int .i64 b182_), [])), (85, (.v (.bool (decide (b182_ < (c179_.gKids.length : Int)))), []))], [], []⟩ _ (by kernel_rfl) .nil ?_
              refine Wc.seq ?_
              rcases oif h309 with ⟨h310, h309⟩ | ⟨h310, h309⟩
              · refine Wc.condT h310 (by kernel_rfl) ?_
                refine Wc.fix (st' := ⟨[(1, (.v (.int .i64 b180_), [])), (5, (.v (.int .i64 b181_), [])), (82, (.v (.sl (List.map GTerm.c c179_.gKids)), [])), (83, (.v (.int .i64 (c179_.gKids.length : Int)), [])), (84, (.v (.int .i64 b182_), []))], [], []⟩) [] [1, 5, 82, 83, 84] [] [] (by kernel_rfl) ?_
                refine Wc.skip ?_
                refine Wc.seq ?_
                refine Wc.block ?_
                refine Wc.seq ?_
                obtain ⟨c184_, h311, h309⟩ := obind h309
                refine Wc.region [{ v := some (.vptr [.int .i64 c184_.gKind, .str c184_.gName, .int .i64 c184_.gNum, .sl (List.map GTerm.c c184_.gKids)]) }] [] [1, 5, 7, 82, 83, 84] [7] [] ⟨[(1, (.v (.int .i64 b180_), [])), (5, (.v (.int .i64 b181_), [])), (7, (.ptr 7 0, [])), (82, (.v (.sl (List.map GTerm.c c179_.gKids)), [])), (83, (.v (.int .i64 (c179_.gKids.length : Int)), [])), (84, (.v (.int .i64 b182_), []))], [(7, .cells [.int .i64 c184_.gKind, .str c184_.gName, .int .i64 c184_.gNum, .sl (List.map GTerm.c c184_.gKids)] [])], []⟩ _ (by kernel_rfl) (.cons (at_obl (c := GTerm.c) (GTerm.c_eq c184_) GTerm.c_len h311) (.cons (len_ok 4 [.int .i64 c184_.gKind, .str c184_.gName, .int .i64 c184_.gNum, .sl (List.map GTerm.c c184_.gKids)]) .nil)) ?_
                refine Wc.seq ?_
                obtain ⟨b185_, h312, h309⟩ := obind h309
                refine Wc.region [{}, {}, {}, {}, { r := some (.v (.int .i64 b185_) []) }] [] [1, 5, 82, 83, 84] [] [] ⟨[(1, (.v (.int .i64 b180_), [])), (5, (.v (.int .i64 (wr.i64 (b181_ + b185_))), [])), (82, (.v (.sl (List.map GTerm.c c179_.gKids)), [])), (83, (.v (.int .i64 (c179_.gKids.length : Int)), [])), (84, (.v (.int .i64 b182_), []))], [], []⟩ _ (by kernel_rfl) (.cons (ih_pimpl_sized h312) .nil) ?_
                refine Wc.seq ?_
                refine Wc.region [] [] [1, 5, 82, 83, 84, 95] [] [] ⟨[(1, (.v (.int .i64 b180_), [])), (5, (.v (.int .i64 (wr.i64 (b181_ + b185_))), [])), (82, (.v (.sl (List.map GTerm.c c179_.gKids)), [])), (83, (.v (.int .i64 (c179_.gKids.length : Int)), [])), (84, (.v (.int .i64 b182_), [])), (95, (.v (.bool (decide ((wr.i64 (b181_ + b185_)) > 400))), []))], [], []⟩ _ (by kernel_rfl) .nil ?_
                rcases oif h309 with ⟨h313, h309⟩ | ⟨h313, h309⟩
                · refine Wc.condT h313 (by kernel_rfl) ?_
                  refine Wc.seq ?_
                  refine Wc.region [] [] [4] [] [] ⟨[(4, (.v (.int .i64 401), []))], [], []⟩ _ (by kernel_rfl) .nil ?_
                  refine Wc.ret ?_
                  obtain rfl := Option.some.inj h309
                  obtain rfl := Option.some.inj h
                  exact ⟨.inl rfl, by kernel_rfl, by kernel_rfl⟩
                · refine Wc.condF h313 (by kernel_rfl) ?_
                  refine Wc.fix (st' := ⟨[(1, (.v (.int .i64 b180_), [])), (5, (.v (.int .i64 (wr.i64 (b181_ + b185_))), [])), (82, (.v (.sl (List.map GTerm.c c179_.gKids)), [])), (83, (.v (.int .i64 (c179_.gKids.length : Int)), [])), (84, (.v (.int .i64 b182_), []))], [], []⟩) [] [1, 5, 82, 83, 84] [] [] (by kernel_rfl) ?_
                  refine Wc.skip ?_
                  refine Wc.region [] [] [1, 5, 82, 83, 84] [] [] ⟨[(1, (.v (.int .i64 b180_), [])), (5, (.v (.int .i64 (wr.i64 (b181_ + b185_))), [])), (82, (.v (.sl (List.map GTerm.c c179_.gKids)), [])), (83, (.v (.int .i64 (c179_.gKids.length : Int)), [])), (84, (.v (.int .i64 (wr.i64 (b182_ + 1))), []))], [], []⟩ _ (by kernel_rfl) .nil ?_
                  exact ⟨_, Nat.lt_succ_self _, _, _, rfl, h309⟩
              · refine Wc.condF h310 (by kernel_rfl) ?_
                refine Wc.fix (st' := ⟨[(5, (.v (.int .i64 b181_), []))], [], []⟩) [] [5] [] [] (by kernel_rfl) ?_
                refine Wc.exit ?_
                obtain rfl := Option.some.inj h309
                exact ⟨_, rfl, rfl⟩
          · rintro st ⟨b183_, rfl, rfl⟩
            refine Wc.seq ?_
            refine Wc.region [] [] [4] [] [] ⟨[(4, (.v (.int .i64 b183_), []))], [], []⟩ _ (by kernel_rfl) .nil ?_
            refine Wc.ret ?_
            obtain rfl := Option.some.inj h
            exact ⟨.inl rfl, by kernel_rfl, by kernel_rfl⟩
theorem cimpl_sized {k : Nat} {c179_ : GTerm} {b180_ : Int} {r : Int} (h : pimpl_sized k c179_ b180_ = some r) : FnO Tryd.prog 24 [.v (.agg [.int .i64 c179_.gKind, .str c179_.gName, .int .i64 c179_.gNum, .sl (List.map GTerm.c c179_.gKids)]) [], .v (.int .i64 b180_) []] (.v (.int .i64 r) []) [] := (all_pimpl_sized k) h

/-- impl.TermOk -/
def pimpl_TermOk (k : Nat) (c191_ : GTerm) : Option Bool :=
  (pimpl_sized k c191_ 1).bind fun b192_ =>
  some (decide (b192_ ≤ 400))
theorem cimpl_TermOk {k : Nat} {c191_ : GTerm} {r : Bool} (h : pimpl_TermOk k c191_ = some r) : FnO Tryd.prog 13 [.v (.agg [.int .i64 c191_.gKind, .str c191_.gName, .int .i64 c191_.gNum, .sl (List.map GTerm.c c191_.gKids)]) []] (.v (.bool r) []) [] := by
  refine FnO.of Tryd.func13 (rfl : Tryd.f13.body = some _) (Nat.le_of_ble_eq_true (by kernel_rfl)) (Nat.le_of_ble_eq_true (by kernel_rfl)) ?_
  intro w0 X0 Fin pv0 pb gt
  unfold pimpl_TermOk at h
  refine Wc.seq ?_
  refine Wc.region [] [] [1] [1] [] ⟨[(1, (.ptr 1 0, []))], [(1, .cells [.int .i64 c191_.gKind, .str c191_.gName, .int .i64 c191_.gNum, .sl (List.map GTerm.c c191_.gKids)] [])], []⟩ _ (by kernel_rfl) .nil ?_
  refine Wc.seq ?_
  obtain ⟨b192_, h335, h⟩ := obind h
  refine Wc.region [{}, { r := some (.v (.int .i64 b192_) []) }] [] [2] [] [] ⟨[(2, (.v (.bool (decide (b192_ ≤ 400))), []))], [], []⟩ _ (by kernel_rfl) (.cons (cimpl_sized h335) .nil) ?_
  refine Wc.ret ?_
  obtain rfl := Option.some.inj h
  exact ⟨.inl rfl, by kernel_rfl, by kernel_rfl⟩

def pstrconv_Itoa (k : Nat) (n : Int) : Option ByteArray :=
  if -9223372036854775808 ≤ n ∧ n ≤ 9223372036854775807 then some ⟨(Lib.itoa n).toArray⟩ else none
theorem cstrconv_Itoa {k : Nat} {n : Int} {r : ByteArray} (h : pstrconv_Itoa k n = some r) : FnO Tryd.prog 45 [.v (.int .i64 n) []] (.v (.str r) []) [] := itoa_O Tryd.strconv_Itoa tab_at h

/-- impl.Decimal -/
def pimpl_Decimal (k : Nat) (b193_ : Int) : Option ByteArray :=
  (pstrconv_Itoa k b193_).bind fun d194_ =>
  some d194_
theorem cimpl_Decimal {k : Nat} {b193_ : Int} {r : ByteArray} (h : pimpl_Decimal k b193_ = some r) : FnO Tryd.prog 34 [.v (.int .i64 b193_) []] (.v (.str r) []) [] := by
  refine FnO.of Tryd.func34 (rfl : Tryd.f34.body = some _) (Nat.le_of_ble_eq_true (by kernel_rfl)) (Nat.le_of_ble_eq_true (by kernel_rfl)) ?_
  intro w0 X0 Fin pv0 pb gt
  unfold pimpl_Decimal at h
  refine Wc.seq ?_
  refine Wc.region [] [] [0] [] [] ⟨[(0, (.v (.int .i64 b193_), []))], [], []⟩ _ (by kernel_rfl) .nil ?_
  refine Wc.seq ?_
  obtain ⟨d194_, h336, h⟩ := obind h
  refine Wc.region [{}, { r := some (.v (.str d194_) []) }] [] [2] [] [] ⟨[(2, (.v (.str d194_), []))], [], []⟩ _ (by kernel_rfl) (.cons (cstrconv_Itoa h336) .nil) ?_
  refine Wc.ret ?_
  obtain rfl := Option.some.inj h
  exact ⟨.inl rfl, by kernel_rfl, by kernel_rfl⟩

/-- impl.isAtom -/
def pimpl_isAtom (k : Nat) (c195_ : GTerm) (d196_ : ByteArray) : Option Bool :=
  if (c195_.gKind == 2) = true then
    some (sEq c195_.gName d196_)
  else
    some false
theorem cimpl_isAtom {k : Nat} {c195_ : GTerm} {d196_ : ByteArray} {r : Bool} (h : pimpl_isAtom k c195_ d196_ = some r) : FnO Tryd.prog 35 [.v (.agg [.int .i64 c195_.gKind, .str c195_.gName, .int .i64 c195_.gNum, .sl (List.map GTerm.c c195_.gKids)]) [], .v (.str d196_) []] (.v (.bool r) []) [] := by
  refine FnO.of Tryd.func35 (rfl : Tryd.f35.body = some _) (Nat.le_of_ble_eq_true (by kernel_rfl)) (Nat.le_of_ble_eq_true (by kernel_rfl)) ?_
  intro w0 X0 Fin pv0 pb gt
  unfold pimpl_isAtom at h
  refine Wc.seq ?_
  refine Wc.region [] [] [1, 2] [2] [] ⟨[(1, (.v (.str d196_), [])), (2, (.ptr 2 0, []))], [(2, .cells [.int .i64 c195_.gKind, .str c195_.gName, .int .i64 c195_.gNum, .sl (List.map GTerm.c c195_.gKids)] [])], []⟩ _ (by kernel_rfl) .nil ?_
  refine Wc.seq ?_
  rcases oif h with ⟨h337, h⟩ | ⟨h337, h⟩
  · refine Wc.region [{}, {}, {}, { re := some (.bool true) }] [] [4] [] [] ⟨[(4, (.v (.bool (sEq c195_.gName d196_)), []))], [], []⟩ _ (by kernel_rfl) (.cons (congrArg AV.bool h337) .nil) ?_
    refine Wc.ret ?_
    obtain rfl := Option.some.inj h
    exact ⟨.inl rfl, by kernel_rfl, by kernel_rfl⟩
  · refine Wc.region [{}, {}, {}, { re := some (.bool false) }] [] [4] [] [] ⟨[(4, (.v (.bool false), []))], [], []⟩ _ (by kernel_rfl) (.cons (congrArg AV.bool h337) .nil) ?_
    refine Wc.ret ?_
    obtain rfl := Option.some.inj h
    exact ⟨.inl rfl, by kernel_rfl, by kernel_rfl⟩

def pimpl_InfixOf_J3 (k : Nat) (d197_ : ByteArray) (e200_ : Bool) : Option (GOp × Bool) :=
  if e200_ = true then
    some (GOp.mk d197_ 500 500 499, true)
  else
    if (sEq d197_ (bs [42])) = true then
      if (sEq d197_ (bs [42])) = true then
        some (GOp.mk d197_ 400 400 399, true)
      else
        some (GOp.mk (bs []) 0 0 0, false)
    else
      if (sEq d197_ (bs [47, 47])) = true then
        some (GOp.mk d197_ 400 400 399, true)
      else
        some (GOp.mk (bs []) 0 0 0, false)
def pimpl_InfixOf_J2 (k : Nat) (d197_ : ByteArray) (e199_ : Bool) : Option (GOp × Bool) :=
  if e199_ = true then
    some (GOp.mk d197_ 700 699 699, true)
  else
    if (sEq d197_ (bs [43])) = true then
      pimpl_InfixOf_J3 k d197_ (sEq d197_ (bs [43]))
    else
      pimpl_InfixOf_J3 k d197_ (sEq d197_ (bs [45]))
def pimpl_InfixOf_J1 (k : Nat) (d197_ : ByteArray) (e198_ : Bool) : Option (GOp × Bool) :=
  if e198_ = true then
    some (GOp.mk d197_ 1200 1199 1199, true)
  else
    if (sEq d197_ (bs [59])) = true then
      some (GOp.mk d197_ 1100 1099 1100, true)
    else
      if (sEq d197_ (bs [45, 62])) = true then
        some (GOp.mk d197_ 1050 1049 1050, true)
      else
        if (sEq d197_ (bs [44])) = true then
          some (GOp.mk d197_ 1000 999 1000, true)
        else
          if (sEq d197_ (bs [61])) = true then
            pimpl_InfixOf_J2 k d197_ (sEq d197_ (bs [61]))
          else
            if (sEq d197_ (bs [92, 61])) = true then
              pimpl_InfixOf_J2 k d197_ (sEq d197_ (bs [92, 61]))
            else
              if (sEq d197_ (bs [61, 61])) = true then
                pimpl_InfixOf_J2 k d197_ (sEq d197_ (bs [61, 61]))
              else
                if (sEq d197_ (bs [105, 115])) = true then
                  pimpl_InfixOf_J2 k d197_ (sEq d197_ (bs [105, 115]))
                else
                  if (sEq d197_ (bs [60])) = true then
                    pimpl_InfixOf_J2 k d197_ (sEq d197_ (bs [60]))
                  else
                    pimpl_InfixOf_J2 k d197_ (sEq d197_ (bs [61, 58, 61]))
/-- impl.InfixOf -/
def pimpl_InfixOf (k : Nat) (d197_ : ByteArray) : Option (GOp × Bool) :=
  if (sEq d197_ (bs [58, 45])) = true then
    pimpl_InfixOf_J1 k d197_ (sEq d197_ (bs [58, 45]))
  else
    pimpl_InfixOf_J1 k d197_ (sEq d197_ (bs [45, 45, 62]))
set_option maxHeartbeats 4000000 in
theorem cimpl_InfixOf {k : Nat} {d197_ : ByteArray} {r : GOp × Bool} (h : pimpl_InfixOf k d197_ = some r) : FnO Tryd.prog 46 [.v (.str d197_) []] (.v (.tup [.agg [.str r.1.gName, .int .i64 r.1.gPrio, .int .i64 r.1.gLeft, .int .i64 r.1.gRight], .bool r.2]) []) [] := by
  refine FnO.of Tryd.func46 (rfl : Tryd.f46.body = some _) (Nat.le_of_ble_eq_true (by kernel_rfl)) (Nat.le_of_ble_eq_true (by kernel_rfl)) ?_
  intro w0 X0 Fin pv0 pb gt
  unfold pimpl_InfixOf at h
  refine Wc.seq ?_
  refine Wc.region [] [] [0, 2] [2] [] ⟨[(0, (.v (.str d197_), [])), (2, (.ptr 2 0, []))], [(2, .cells [.str (bs []), .int .i64 0, .int .i64 0, .int .i64 0] [])], []⟩ _ (by kernel_rfl) .nil ?_
  refine Wc.seq ?_
  refine Wc.seq ?_
  refine Wc.region [] [] [0, 2, 4] [2] [] ⟨[(0, (.v (.str d197_), [])), (2, (.ptr 2 0, [])), (4, (.v (.str d197_), []))], [(2, .cells [.str (bs []), .int .i64 0, .int .i64 0, .int .i64 0] [])], []⟩ _ (by kernel_rfl) .nil ?_
  refine Wc.block ?_
  refine Wc.seqJ (fun st => ∃ (e198_ : Bool), st = ⟨[(0, (.v (.str d197_), [])), (2, (.ptr 2 0, [])), (4, (.v (.str d197_), [])), (5, (.v (.bool e198_), []))], [(2, .cells [.str (bs []), .int .i64 0, .int .i64 0, .int .i64 0] [])], []⟩ ∧ pimpl_InfixOf_J1 k d197_ e198_ = some r) ?_ ?_
  · refine Wc.seq ?_
    refine Wc.region [] [] [0, 2, 4, 5] [2] [] ⟨[(0, (.v (.str d197_), [])), (2, (.ptr 2 0, [])), (4, (.v (.str d197_), [])), (5, (.v (.bool (sEq d197_ (bs [58, 45]))), []))], [(2, .cells [.str (bs []), .int .i64 0, .int .i64 0, .int .i64 0] [])], []⟩ _ (by kernel_rfl) .nil ?_
    rcases oif h with ⟨h353, h⟩ | ⟨h353, h⟩
    · refine Wc.condT h353 (by kernel_rfl) ?_
      refine Wc.skip ?_
      exact ⟨_, rfl, h⟩
    · refine Wc.condF h353 (by kernel_rfl) ?_
      refine Wc.region [] [] [0, 2, 4, 5] [2] [] ⟨[(0, (.v (.str d197_), [])), (2, (.ptr 2 0, [])), (4, (.v (.str d197_), [])), (5, (.v (.bool (sEq d197_ (bs [45, 45, 62]))), []))], [(2, .cells [.str (bs []), .int .i64 0, .int .i64 0, .int .i64 0] [])], []⟩ _ (by kernel_rfl) .nil ?_
      exact ⟨_, rfl, h⟩
  · rintro st ⟨e198_, rfl, h⟩
    rcases oif h with ⟨h338, h⟩ | ⟨h338, h⟩
    · refine Wc.condT h338 (by kernel_rfl) ?_
      refine Wc.seq ?_
      refine Wc.region [] [] [2, 3] [2] [] ⟨[(2, (.ptr 2 0, [])), (3, (.v (.bool true), []))], [(2, .cells [.str d197_, .int .i64 1200, .int .i64 1199, .int .i64 1199] [])], []⟩ _ (by kernel_rfl) .nil ?_
      refine Wc.ret ?_
      obtain rfl := Option.some.inj h
      exact ⟨.inl rfl, by kernel_rfl, by kernel_rfl⟩
    · refine Wc.condF h338 (by kernel_rfl) ?_
      refine Wc.seq ?_
      refine Wc.region [] [] [0, 2, 4, 10] [2] [] ⟨[(0, (.v (.str d197_), [])), (2, (.ptr 2 0, [])), (4, (.v (.str d197_), [])), (10, (.v (.bool (sEq d197_ (bs [59]))), []))], [(2, .cells [.str (bs []), .int .i64 0, .int .i64 0, .int .i64 0] [])], []⟩ _ (by kernel_rfl) .nil ?_
      rcases oif h with ⟨h339, h⟩ | ⟨h339, h⟩
      · refine Wc.condT h339 (by kernel_rfl) ?_
        refine Wc.seq ?_
        refine Wc.region [] [] [2, 3] [2] [] ⟨[(2, (.ptr 2 0, [])), (3, (.v (.bool true), []))], [(2, .cells [.str d197_, .int .i64 1100, .int .i64 1099, .int .i64 1100] [])], []⟩ _ (by kernel_rfl) .nil ?_
        refine Wc.ret ?_
        obtain rfl := Option.some.inj h
        exact ⟨.inl rfl, by kernel_rfl, by kernel_rfl⟩
      · refine Wc.condF h339 (by kernel_rfl) ?_
        refine Wc.seq ?_
        refine Wc.region [] [] [0, 2, 4, 14] [2] [] ⟨[(0, (.v (.str d197_), [])), (2, (.ptr 2 0, [])), (4, (.v (.str d197_), [])), (14, (.v (.bool (sEq d197_ (bs [45, 62]))), []))], [(2, .cells [.str (bs []), .int .i64 0, .int .i64 0, .int .i64 0] [])], []⟩ _ (by kernel_rfl) .nil ?_
        rcases oif h with ⟨h340, h⟩ | ⟨h340, h⟩
        · refine Wc.condT h340 (by kernel_rfl) ?_
          refine Wc.seq ?_
          refine Wc.region [] [] [2, 3] [2] [] ⟨[(2, (.ptr 2 0, [])), (3, (.v (.bool true), []))], [(2, .cells [.str d197_, .int .i64 1050, .int .i64 1049, .int .i64 1050] [])], []⟩ _ (by kernel_rfl) .nil ?_
          refine Wc.ret ?_
          obtain rfl := Option.some.inj h
          exact ⟨.inl rfl, by kernel_rfl, by kernel_rfl⟩
        · refine Wc.condF h340 (by kernel_rfl) ?_
          refine Wc.seq ?_
          refine Wc.region [] [] [0, 2, 4, 18] [2] [] ⟨[(0, (.v (.str d197_), [])), (2, (.ptr 2 0, [])), (4, (.v (.str d197_), [])), (18, (.v (.bool (sEq d197_ (bs [44]))), []))], [(2, .cells [.str (bs []), .int .i64 0, .int .i64 0, .int .i64 0] [])], []⟩ _ (by kernel_rfl) .nil ?_
          rcases oif h with ⟨h341, h⟩ | ⟨h341, h⟩
          · refine Wc.condT h341 (by kernel_rfl) ?_
            refine Wc.seq ?_
            refine Wc.region [] [] [2, 3] [2] [] ⟨[(2, (.ptr 2 0, [])), (3, (.v (.bool true), []))], [(2, .cells [.str d197_, .int .i64 1000, .int .i64 999, .int .i64 1000] [])], []⟩ _ (by kernel_rfl) .nil ?_
            refine Wc.ret ?_
            obtain rfl := Option.some.inj h
            exact ⟨.inl rfl, by kernel_rfl, by kernel_rfl⟩
          · refine Wc.condF h341 (by kernel_rfl) ?_
            refine Wc.seqJ (fun st => ∃ (e199_ : Bool), st = ⟨[(0, (.v (.str d197_), [])), (2, (.ptr 2 0, [])), (4, (.v (.str d197_), [])), (22, (.v (.bool e199_), []))], [(2, .cells [.str (bs []), .int .i64 0, .int .i64 0, .int .i64 0] [])], []⟩ ∧ pimpl_InfixOf_J2 k d197_ e199_ = some r) ?_ ?_
            · refine Wc.seq ?_
              refine Wc.region [] [] [0, 2, 4, 22] [2] [] ⟨[(0, (.v (.str d197_), [])), (2, (.ptr 2 0, [])), (4, (.v (.str d197_), [])), (22, (.v (.bool (sEq d197_ (bs [61]))), []))], [(2, .cells [.str (bs []), .int .i64 0, .int .i64 0, .int .i64 0] [])], []⟩ _ (by kernel_rfl) .nil ?_
              rcases oif h with ⟨h348, h⟩ | ⟨h348, h⟩
              · refine Wc.condT h348 (by kernel_rfl) ?_
                refine Wc.skip ?_
                exact ⟨_, rfl, h⟩
              · refine Wc.condF h348 (by kernel_rfl) ?_
                refine Wc.seq ?_
                refine Wc.region [] [] [0, 2, 4, 22] [2] [] ⟨[(0, (.v (.str d197_), [])), (2, (.ptr 2 0, [])), (4, (.v (.str d197_), [])), (22, (.v (.bool (sEq d197_ (bs [92, 61]))), []))], [(2, .cells [.str (bs []), .int .i64 0, .int .i64 0, .int .i64 0] [])], []⟩ _ (by kernel_rfl) .nil ?_
                rcases oif h with ⟨h349, h⟩ | ⟨h349, h⟩
                · refine Wc.condT h349 (by kernel_rfl) ?_
                  refine Wc.skip ?_
                  exact ⟨_, rfl, h⟩
                · refine Wc.condF h349 (by kernel_rfl) ?_
                  refine Wc.seq ?_
                  refine Wc.region [] [] [0, 2, 4, 22] [2] [] ⟨[(0, (.v (.str d197_), [])), (2, (.ptr 2 0, [])), (4, (.v (.str d197_), [])), (22, (.v (.bool (sEq d197_ (bs [61, 61]))), []))], [(2, .cells [.str (bs []), .int .i64 0, .int .i64 0, .int .i64 0] [])], []⟩ _ (by kernel_rfl) .nil ?_
                  rcases oif h with ⟨h350, h⟩ | ⟨h350, h⟩
                  · refine Wc.condT h350 (by kernel_rfl) ?_
                    refine Wc.skip ?_
                    exact ⟨_, rfl, h⟩
                  · refine Wc.condF h350 (by kernel_rfl) ?_
                    refine Wc.seq ?_
                    refine Wc.region [] [] [0, 2, 4, 22] [2] [] ⟨[(0, (.v (.str d197_), [])), (2, (.ptr 2 0, [])), (4, (.v (.str d197_), [])), (22, (.v (.bool (sEq d197_ (bs [105, 115]))), []))], [(2, .cells [.str (bs []), .int .i64 0, .int .i64 0, .int .i64 0] [])], []⟩ _ (by kernel_rfl) .nil ?_
                    rcases oif h with ⟨h351, h⟩ | ⟨h351, h⟩
                    · refine Wc.condT h351 (by kernel_rfl) ?_
                      refine Wc.skip ?_
                      exact ⟨_, rfl, h⟩
                    · refine Wc.condF h351 (by kernel_rfl) ?_
                      refine Wc.seq ?_
                      refine Wc.region [] [] [0, 2, 4, 22] [2] [] ⟨[(0, (.v (.str d197_), [])), (2, (.ptr 2 0, [])), (4, (.v (.str d197_), [])), (22, (.v (.bool (sEq d197_ (bs [60]))), []))], [(2, .cells [.str (bs []), .int .i64 0, .int .i64 0, .int .i64 0] [])], []⟩ _ (by kernel_rfl) .nil ?_
                      rcases oif h with ⟨h352, h⟩ | ⟨h352, h⟩
                      · refine Wc.condT h352 (by kernel_rfl) ?_
                        refine Wc.skip ?_
                        exact ⟨_, rfl, h⟩
                      · refine Wc.condF h352 (by kernel_rfl) ?_
                        refine Wc.region [] [] [0, 2, 4, 22] [2] [] ⟨[(0, (.v (.str d197_), [])), (2, (.ptr 2 0, [])), (4, (.v (.str d197_), [])), (22, (.v (.bool (sEq d197_ (bs [61, 58, 61]))), []))], [(2, .cells [.str (bs []), .int .i64 0, .int .i64 0, .int .i64 0] [])], []⟩ _ (by kernel_rfl) .nil ?_
                        exact ⟨_, rfl, h⟩
            · rintro st ⟨e199_, rfl, h⟩
              rcases oif h with ⟨h342, h⟩ | ⟨h342, h⟩
              · refine Wc.condT h342 (by kernel_rfl) ?_
                refine Wc.seq ?_
                refine Wc.region [] [] [2, 3] [2] [] ⟨[(2, (.ptr 2 0, [])), (3, (.v (.bool true), []))], [(2, .cells [.str d197_, .int .i64 700, .int .i64 699, .int .i64 699] [])], []⟩ _ (by kernel_rfl) .nil ?_
                refine Wc.ret ?_
                obtain rfl := Option.some.inj h
                exact ⟨.inl rfl, by kernel_rfl, by kernel_rfl⟩
              · refine Wc.condF h342 (by kernel_rfl) ?_
                refine Wc.seqJ (fun st => ∃ (e200_ : Bool), st = ⟨[(0, (.v (.str d197_), [])), (2, (.ptr 2 0, [])), (4, (.v (.str d197_), [])), (31, (.v (.bool e200_), []))], [(2, .cells [.str (bs []), .int .i64 0, .int .i64 0, .int .i64 0] [])], []⟩ ∧ pimpl_InfixOf_J3 k d197_ e200_ = some r) ?_ ?_
                · refine Wc.seq ?_
                  refine Wc.region [] [] [0, 2, 4, 31] [2] [] ⟨[(0, (.v (.str d197_), [])), (2, (.ptr 2 0, [])), (4, (.v (.str d197_), [])), (31, (.v (.bool (sEq d197_ (bs [43]))), []))], [(2, .cells [.str (bs []), .int .i64 0, .int .i64 0, .int .i64 0] [])], []⟩ _ (by kernel_rfl) .nil ?_
                  rcases oif h with ⟨h347, h⟩ | ⟨h347, h⟩
                  · refine Wc.condT h347 (by kernel_rfl) ?_
                    refine Wc.skip ?_
                    exact ⟨_, rfl, h⟩
                  · refine Wc.condF h347 (by kernel_rfl) ?_
                    refine Wc.region [] [] [0, 2, 4, 31] [2] [] ⟨[(0, (.v (.str d197_), [])), (2, (.ptr 2 0, [])), (4, (.v (.str d197_), [])), (31, (.v (.bool (sEq d197_ (bs [45]))), []))], [(2, .cells [.str (bs []), .int .i64 0, .int .i64 0, .int .i64 0] [])], []⟩ _ (by kernel_rfl) .nil ?_
                    exact ⟨_, rfl, h⟩
                · rintro st ⟨e200_, rfl, h⟩
                  rcases oif h with ⟨h343, h⟩ | ⟨h343, h⟩
                  · refine Wc.condT h343 (by kernel_rfl) ?_
                    refine Wc.seq ?_
                    refine Wc.region [] [] [2, 3] [2] [] ⟨[(2, (.ptr 2 0, [])), (3, (.v (.bool true), []))], [(2, .cells [.str d197_, .int .i64 500, .int .i64 500, .int .i64 499] [])], []⟩ _ (by kernel_rfl) .nil ?_
                    refine Wc.ret ?_
                    obtain rfl := Option.some.inj h
                    exact ⟨.inl rfl, by kernel_rfl, by kernel_rfl⟩
                  · refine Wc.condF h343 (by kernel_rfl) ?_
                    refine Wc.seq ?_
                    refine Wc.seq ?_
                    refine Wc.region [] [] [0, 2, 4, 36] [2] [] ⟨[(0, (.v (.str d197_), [])), (2, (.ptr 2 0, [])), (4, (.v (.str d197_), [])), (36, (.v (.bool (sEq d197_ (bs [42]))), []))], [(2, .cells [.str (bs []), .int .i64 0, .int .i64 0, .int .i64 0] [])], []⟩ _ (by kernel_rfl) .nil ?_
                    rcases oif h with ⟨h344, h⟩ | ⟨h344, h⟩
                    · refine Wc.condT h344 (by kernel_rfl) ?_
                      refine Wc.fix (st' := ⟨[(0, (.v (.str d197_), [])), (2, (.ptr 2 0, [])), (36, (.v (.bool (sEq d197_ (bs [42]))), []))], [(2, .cells [.str (bs []), .int .i64 0, .int .i64 0, .int .i64 0] [])], []⟩) [] [0, 2, 36] [2] [] (by kernel_rfl) ?_
                      refine Wc.skip ?_
                      rcases oif h with ⟨h345, h⟩ | ⟨h345, h⟩
                      · refine Wc.condT h345 (by kernel_rfl) ?_
                        refine Wc.seq ?_
                        refine Wc.region [] [] [2, 3] [2] [] ⟨[(2, (.ptr 2 0, [])), (3, (.v (.bool true), []))], [(2, .cells [.str d197_, .int .i64 400, .int .i64 400, .int .i64 399] [])], []⟩ _ (by kernel_rfl) .nil ?_
                        refine Wc.ret ?_
                        obtain rfl := Option.some.inj h
                        exact ⟨.inl rfl, by kernel_rfl, by kernel_rfl⟩
                      · refine Wc.condF h345 (by kernel_rfl) ?_
                        refine Wc.fix (st' := ⟨[(2, (.ptr 2 0, []))], [(2, .cells [.str (bs []), .int .i64 0, .int .i64 0, .int .i64 0] [])], []⟩) [] [2] [2] [] (by kernel_rfl) ?_
                        refine Wc.skip ?_
                        refine Wc.seq ?_
                        refine Wc.region [] [] [2, 3] [2] [] ⟨[(2, (.ptr 2 0, [])), (3, (.v (.bool false), []))], [(2, .cells [.str (bs []), .int .i64 0, .int .i64 0, .int .i64 0] [])], []⟩ _ (by kernel_rfl) .nil ?_
                        refine Wc.ret ?_
                        obtain rfl := Option.some.inj h
                        exact ⟨.inl rfl, by kernel_rfl, by kernel_rfl⟩
                    · refine Wc.condF h344 (by kernel_rfl) ?_
                      refine Wc.region [] [] [0, 2, 36] [2] [] ⟨[(0, (.v (.str d197_), [])), (2, (.ptr 2 0, [])), (36, (.v (.bool (sEq d197_ (bs [47, 47]))), []))], [(2, .cells [.str (bs []), .int .i64 0, .int .i64 0, .int .i64 0] [])], []⟩ _ (by kernel_rfl) .nil ?_
                      rcases oif h with ⟨h346, h⟩ | ⟨h346, h⟩
                      · refine Wc.condT h346 (by kernel_rfl) ?_
                        refine Wc.seq ?_
                        refine Wc.region [] [] [2, 3] [2] [] ⟨[(2, (.ptr 2 0, [])), (3, (.v (.bool true), []))], [(2, .cells [.str d197_, .int .i64 400, .int .i64 400, .int .i64 399] [])], []⟩ _ (by kernel_rfl) .nil ?_
                        refine Wc.ret ?_
                        obtain rfl := Option.some.inj h
                        exact ⟨.inl rfl, by kernel_rfl, by kernel_rfl⟩
                      · refine Wc.condF h346 (by kernel_rfl) ?_
                        refine Wc.fix (st' := ⟨[(2, (.ptr 2 0, []))], [(2, .cells [.str (bs []), .int .i64 0, .int .i64 0, .int .i64 0] [])], []⟩) [] [2] [2] [] (by kernel_rfl) ?_
                        refine Wc.skip ?_
                        refine Wc.seq ?_
                        refine Wc.region [] [] [2, 3] [2] [] ⟨[(2, (.ptr 2 0, [])), (3, (.v (.bool false), []))], [(2, .cells [.str (bs []), .int .i64 0, .int .i64 0, .int .i64 0] [])], []⟩ _ (by kernel_rfl) .nil ?_
                        refine Wc.ret ?_
                        obtain rfl := Option.some.inj h
                        exact ⟨.inl rfl, by kernel_rfl, by kernel_rfl⟩

/-- impl.PrefixOf -/
def pimpl_PrefixOf (k : Nat) (d201_ : ByteArray) : Option (GOp × Bool) :=
  if (sEq d201_ (bs [58, 45])) = true then
    some (GOp.mk d201_ 1200 0 1199, true)
  else
    if (sEq d201_ (bs [92, 43])) = true then
      some (GOp.mk d201_ 900 0 900, true)
    else
      if (sEq d201_ (bs [45])) = true then
        some (GOp.mk d201_ 200 0 200, true)
      else
        some (GOp.mk (bs []) 0 0 0, false)
theorem cimpl_PrefixOf {k : Nat} {d201_ : ByteArray} {r : GOp × Bool} (h : pimpl_PrefixOf k d201_ = some r) : FnO Tryd.prog 47 [.v (.str d201_) []] (.v (.tup [.agg [.str r.1.gName, .int .i64 r.1.gPrio, .int .i64 r.1.gLeft, .int .i64 r.1.gRight], .bool r.2]) []) [] := by
  refine FnO.of Tryd.func47 (rfl : Tryd.f47.body = some _) (Nat.le_of_ble_eq_true (by kernel_rfl)) (Nat.le_of_ble_eq_true (by kernel_rfl)) ?_
  intro w0 X0 Fin pv0 pb gt
  unfold pimpl_PrefixOf at h
  refine Wc.seq ?_
  refine Wc.region [] [] [0, 2] [2] [] ⟨[(0, (.v (.str d201_), [])), (2, (.ptr 2 0, []))], [(2, .cells [.str (bs []), .int .i64 0, .int .i64 0, .int .i64 0] [])], []⟩ _ (by kernel_rfl) .nil ?_
  refine Wc.seq ?_
  refine Wc.seq ?_
  refine Wc.region [] [] [0, 2, 4] [2] [] ⟨[(0, (.v (.str d201_), [])), (2, (.ptr 2 0, [])), (4, (.v (.str d201_), []))], [(2, .cells [.str (bs []), .int .i64 0, .int .i64 0, .int .i64 0] [])], []⟩ _ (by kernel_rfl) .nil ?_
  refine Wc.block ?_
  refine Wc.seq ?_
  refine Wc.region [] [] [0, 2, 4, 5] [2] [] ⟨[(0, (.v (.str d201_), [])), (2, (.ptr 2 0, [])), (4, (.v (.str d201_), [])), (5, (.v (.bool (sEq d201_ (bs [58, 45]))), []))], [(2, .cells [.str (bs []), .int .i64 0, .int .i64 0, .int .i64 0] [])], []⟩ _ (by kernel_rfl) .nil ?_
  rcases oif h with ⟨h354, h⟩ | ⟨h354, h⟩
  · refine Wc.condT h354 (by kernel_rfl) ?_
    refine Wc.seq ?_
    refine Wc.region [] [] [2, 3] [2] [] ⟨[(2, (.ptr 2 0, [])), (3, (.v (.bool true), []))], [(2, .cells [.str d201_, .int .i64 1200, .int .i64 0, .int .i64 1199] [])], []⟩ _ (by kernel_rfl) .nil ?_
    refine Wc.ret ?_
    obtain rfl := Option.some.inj h
    exact ⟨.inl rfl, by kernel_rfl, by kernel_rfl⟩
  · refine Wc.condF h354 (by kernel_rfl) ?_
    refine Wc.seq ?_
    refine Wc.region [] [] [0, 2, 4, 9] [2] [] ⟨[(0, (.v (.str d201_), [])), (2, (.ptr 2 0, [])), (4, (.v (.str d201_), [])), (9, (.v (.bool (sEq d201_ (bs [92, 43]))), []))], [(2, .cells [.str (bs []), .int .i64 0, .int .i64 0, .int .i64 0] [])], []⟩ _ (by kernel_rfl) .nil ?_
    rcases oif h with ⟨h355, h⟩ | ⟨h355, h⟩
    · refine Wc.condT h355 (by kernel_rfl) ?_
      refine Wc.seq ?_
      refine Wc.region [] [] [2, 3] [2] [] ⟨[(2, (.ptr 2 0, [])), (3, (.v (.bool true), []))], [(2, .cells [.str d201_, .int .i64 900, .int .i64 0, .int .i64 900] [])], []⟩ _ (by kernel_rfl) .nil ?_
      refine Wc.ret ?_
      obtain rfl := Option.some.inj h
      exact ⟨.inl rfl, by kernel_rfl, by kernel_rfl⟩
    · refine Wc.condF h355 (by kernel_rfl) ?_
      refine Wc.seq ?_
      refine Wc.region [] [] [0, 2, 13] [2] [] ⟨[(0, (.v (.str d201_), [])), (2, (.ptr 2 0, [])), (13, (.v (.bool (sEq d201_ (bs [45]))), []))], [(2, .cells [.str (bs []), .int .i64 0, .int .i64 0, .int .i64 0] [])], []⟩ _ (by kernel_rfl) .nil ?_
      rcases oif h with ⟨h356, h⟩ | ⟨h356, h⟩
      · refine Wc.condT h356 (by kernel_rfl) ?_
        refine Wc.seq ?_
        refine Wc.region [] [] [2, 3] [2] [] ⟨[(2, (.ptr 2 0, [])), (3, (.v (.bool true), []))], [(2, .cells [.str d201_, .int .i64 200, .int .i64 0, .int .i64 200] [])], []⟩ _ (by kernel_rfl) .nil ?_
        refine Wc.ret ?_
        obtain rfl := Option.some.inj h
        exact ⟨.inl rfl, by kernel_rfl, by kernel_rfl⟩
      · refine Wc.condF h356 (by kernel_rfl) ?_
        refine Wc.fix (st' := ⟨[(2, (.ptr 2 0, []))], [(2, .cells [.str (bs []), .int .i64 0, .int .i64 0, .int .i64 0] [])], []⟩) [] [2] [2] [] (by kernel_rfl) ?_
        refine Wc.skip ?_
        refine Wc.seq ?_
        refine Wc.region [] [] [2, 3] [2] [] ⟨[(2, (.ptr 2 0, [])), (3, (.v (.bool false), []))], [(2, .cells [.str (bs []), .int .i64 0, .int .i64 0, .int .i64 0] [])], []⟩ _ (by kernel_rfl) .nil ?_
        refine Wc.ret ?_
        obtain rfl := Option.some.inj h
        exact ⟨.inl rfl, by kernel_rfl, by kernel_rfl⟩

/-- impl.isOp -/
def pimpl_isOp (k : Nat) (d202_ : ByteArray) : Option Bool :=
  (pimpl_InfixOf k d202_).bind fun f203_ =>
  (pimpl_PrefixOf k d202_).bind fun f204_ =>
  if f203_.2 = true then
    some true
  else
    some f204_.2
theorem cimpl_isOp {k : Nat} {d202_ : ByteArray} {r : Bool} (h : pimpl_isOp k d202_ = some r) : FnO Tryd.prog 36 [.v (.str d202_) []] (.v (.bool r) []) [] := by
  refine FnO.of Tryd.func36 (rfl : Tryd.f36.body = some _) (Nat.le_of_ble_eq_true (by kernel_rfl)) (Nat.le_of_ble_eq_true (by kernel_rfl)) ?_
  intro w0 X0 Fin pv0 pb gt
  unfold pimpl_isOp at h
  refine Wc.seq ?_
  refine Wc.region [] [] [0] [] [] ⟨[(0, (.v (.str d202_), []))], [], []⟩ _ (by kernel_rfl) .nil ?_
  refine Wc.seq ?_
  obtain ⟨f203_, h357, h⟩ := obind h
  refine Wc.region [{}, { r := some (.v (.tup [.agg [.str f203_.1.gName, .int .i64 f203_.1.gPrio, .int .i64 f203_.1.gLeft, .int .i64 f203_.1.gRight], .bool f203_.2]) []) }] [] [0, 4] [] [] ⟨[(0, (.v (.str d202_), [])), (4, (.v (.bool f203_.2), []))], [], []⟩ _ (by kernel_rfl) (.cons (cimpl_InfixOf h357) .nil) ?_
  refine Wc.seq ?_
  obtain ⟨f204_, h358, h⟩ := obind h
  refine Wc.region [{}, { r := some (.v (.tup [.agg [.str f204_.1.gName, .int .i64 f204_.1.gPrio, .int .i64 f204_.1.gLeft, .int .i64 f204_.1.gRight], .bool f204_.2]) []) }] [] [4, 6] [] [] ⟨[(4, (.v (.bool f203_.2), [])), (6, (.v (.bool f204_.2), []))], [], []⟩ _ (by kernel_rfl) (.cons (cimpl_PrefixOf h358) .nil) ?_
  refine Wc.seq ?_
  rcases oif h with ⟨h359, h⟩ | ⟨h359, h⟩
  · refine Wc.region [{}, { re := some (.bool true) }] [] [2] [] [] ⟨[(2, (.v (.bool true), []))], [], []⟩ _ (by kernel_rfl) (.cons (congrArg AV.bool h359) .nil) ?_
    refine Wc.ret ?_
    obtain rfl := Option.some.inj h
    exact ⟨.inl rfl, by kernel_rfl, by kernel_rfl⟩
  · refine Wc.region [{}, { re := some (.bool false) }] [] [2] [] [] ⟨[(2, (.v (.bool f204_.2), []))], [], []⟩ _ (by kernel_rfl) (.cons (congrArg AV.bool h359) .nil) ?_
    refine Wc.ret ?_
    obtain rfl := Option.some.inj h
    exact ⟨.inl rfl, by kernel_rfl, by kernel_rfl⟩

/-- impl.SignsOf$1 -/
def pimpl_SignsOf_1 (k : Nat) (b205_ : Int) : Option Bool :=
  some (b205_ != 10)
theorem cimpl_SignsOf_1 {k : Nat} {b205_ : Int} {r : Bool} (h : pimpl_SignsOf_1 k b205_ = some r) : FnO Tryd.prog 62 [.v (.int .u8 b205_) []] (.v (.bool r) []) [] := by
  refine FnO.of Tryd.func62 (rfl : Tryd.f62.body = some _) (Nat.le_of_ble_eq_true (by kernel_rfl)) (Nat.le_of_ble_eq_true (by kernel_rfl)) ?_
  intro w0 X0 Fin pv0 pb gt
  unfold pimpl_SignsOf_1 at h
  refine Wc.seq ?_
  refine Wc.region [] [] [0] [] [] ⟨[(0, (.v (.int .u8 b205_), []))], [], []⟩ _ (by kernel_rfl) .nil ?_
  refine Wc.seq ?_
  refine Wc.region [] [] [2] [] [] ⟨[(2, (.v (.bool (b205_ != 10)), []))], [], []⟩ _ (by kernel_rfl) .nil ?_
  refine Wc.ret ?_
  obtain rfl := Option.some.inj h
  exact ⟨.inl rfl, by kernel_rfl, by kernel_rfl⟩

def pstrings_IndexByte (k : Nat) (s : ByteArray) (c : Int) : Option Int :=
  some (Lib.indexByte s.data.toList c.toNat.toUInt8)
theorem cstrings_IndexByte {k : Nat} {s : ByteArray} {c r : Int} (h : pstrings_IndexByte k s c = some r) : FnO Tryd.prog 74 [.v (.str s) [], .v (.int .u8 c) []] (.v (.int .i64 r) []) [] := indexByte_O Tryd.strings_IndexByte h

/-- impl.SymbolByte -/
def pimpl_SymbolByte (k : Nat) (b206_ : Int) : Option Bool :=
  (pstrings_IndexByte k (bs [43, 45, 42, 47, 92, 94, 60, 62, 61, 126, 58, 46, 63, 64, 35, 38, 36]) b206_).bind fun b207_ =>
  some (decide (b207_ ≥ 0))
theorem cimpl_SymbolByte {k : Nat} {b206_ : Int} {r : Bool} (h : pimpl_SymbolByte k b206_ = some r) : FnO Tryd.prog 73 [.v (.int .u8 b206_) []] (.v (.bool r) []) [] := by
  refine FnO.of Tryd.func73 (rfl : Tryd.f73.body = some _) (Nat.le_of_ble_eq_true (by kernel_rfl)) (Nat.le_of_ble_eq_true (by kernel_rfl)) ?_
  intro w0 X0 Fin pv0 pb gt
  unfold pimpl_SymbolByte at h
  refine Wc.seq ?_
  refine Wc.region [] [] [0] [] [] ⟨[(0, (.v (.int .u8 b206_), []))], [], []⟩ _ (by kernel_rfl) .nil ?_
  refine Wc.seq ?_
  obtain ⟨b207_, h360, h⟩ := obind h
  refine Wc.region [{}, { r := some (.v (.int .i64 b207_) []) }] [] [2] [] [] ⟨[(2, (.v (.bool (decide (b207_ ≥ 0))), []))], [], []⟩ _ (by kernel_rfl) (.cons (cstrings_IndexByte h360) .nil) ?_
  refine Wc.ret ?_
  obtain rfl := Option.some.inj h
  exact ⟨.inl rfl, by kernel_rfl, by kernel_rfl⟩

def pimpl_endsHere_J1 (k : Nat) (b209_ : Int) (d208_ : ByteArray) : Option Bool :=
  if ((wr.i64 (b209_ + 1)) == (d208_.size : Int)) = true then
    some true
  else
    if 0 ≤ wr.i64 (b209_ + 1) ∧ (wr.i64 (b209_ + 1)).toNat < d208_.size then
      (pstrings_IndexByte k (bs [32, 9, 10, 37]) (bt d208_ (wr.i64 (b209_ + 1)))).bind fun b210_ =>
      some (decide (b210_ ≥ 0))
    else none
/-- impl.endsHere -/
def pimpl_endsHere (k : Nat) (d208_ : ByteArray) (b209_ : Int) : Option Bool :=
  if 0 ≤ b209_ ∧ (b209_).toNat < d208_.size then
    if ((bt d208_ b209_) != 46) = true then
      some false
    else
      if (decide (b209_ > 0)) = true then
        if 0 ≤ wr.i64 (b209_ - 1) ∧ (wr.i64 (b209_ - 1)).toNat < d208_.size then
          (pimpl_SymbolByte k (bt d208_ (wr.i64 (b209_ - 1)))).bind fun e211_ =>
          if e211_ = true then
            some false
          else
            pimpl_endsHere_J1 k b209_ d208_
        else none
      else
        pimpl_endsHere_J1 k b209_ d208_
  else none
theorem cimpl_endsHere {k : Nat} {d208_ : ByteArray} {b209_ : Int} {r : Bool} (h : pimpl_endsHere k d208_ b209_ = some r) : FnO Tryd.prog 68 [.v (.str d208_) [], .v (.int .i64 b209_) []] (.v (.bool r) []) [] := by
  refine FnO.of Tryd.func68 (rfl : Tryd.f68.body = some _) (Nat.le_of_ble_eq_true (by kernel_rfl)) (Nat.le_of_ble_eq_true (by kernel_rfl)) ?_
  intro w0 X0 Fin pv0 pb gt
  unfold pimpl_endsHere at h
  refine Wc.seq ?_
  refine Wc.region [] [] [0, 1] [] [] ⟨[(0, (.v (.str d208_), [])), (1, (.v (.int .i64 b209_), []))], [], []⟩ _ (by kernel_rfl) .nil ?_
  refine Wc.seqJ (fun st => st = ⟨[(0, (.v (.str d208_), [])), (1, (.v (.int .i64 b209_), []))], [], []⟩ ∧ pimpl_endsHere_J1 k b209_ d208_ = some r) ?_ ?_
  · refine Wc.seq ?_
    obtain ⟨h364, h⟩ := oguard h
    rcases oif h with ⟨h365, h⟩ | ⟨h365, h⟩
    · refine Wc.region [{}, {}, {}, {}, { re := some (.bool true) }] [] [0, 1, 19] [] [] ⟨[(0, (.v (.str d208_), [])), (1, (.v (.int .i64 b209_), [])), (19, (.v (.bool true), []))], [], []⟩ _ (by kernel_rfl) (.cons h364 (.cons (congrArg AV.bool h365) .nil)) ?_
      refine Wc.condT rfl (by kernel_rfl) ?_
      refine Wc.seq ?_
      refine Wc.region [] [] [4] [] [] ⟨[(4, (.v (.bool false), []))], [], []⟩ _ (by kernel_rfl) .nil ?_
      refine Wc.ret ?_
      obtain rfl := Option.some.inj h
      exact ⟨.inl rfl, by kernel_rfl, by kernel_rfl⟩
    · rcases oif h with ⟨h366, h⟩ | ⟨h366, h⟩
      · obtain ⟨h367, h⟩ := oguard h
        obtain ⟨e211_, h368, h⟩ := obind h
        refine Wc.region [{}, {}, {}, {}, { re := some (.bool false) }, {}, {}, { re := some (.bool true) }, {}, {}, {}, {}, { r := some (.v (.bool e211_) []) }] [] [0, 1, 19] [] [] ⟨[(0, (.v (.str d208_), [])), (1, (.v (.int .i64 b209_), [])), (19, (.v (.bool e211_), []))], [], []⟩ _ (by kernel_rfl) (.cons h364 (.cons (congrArg AV.bool h365) (.cons (congrArg AV.bool h366) (.cons h367 (.cons (cimpl_SymbolByte h368) .nil))))) ?_
        rcases oif h with ⟨h369, h⟩ | ⟨h369, h⟩
        · refine Wc.condT h369 (by kernel_rfl) ?_
          refine Wc.seq ?_
          refine Wc.region [] [] [4] [] [] ⟨[(4, (.v (.bool false), []))], [], []⟩ _ (by kernel_rfl) .nil ?_
          refine Wc.ret ?_
          obtain rfl := Option.some.inj h
          exact ⟨.inl rfl, by kernel_rfl, by kernel_rfl⟩
        · refine Wc.condF h369 (by kernel_rfl) ?_
          refine Wc.fix (st' := ⟨[(0, (.v (.str d208_), [])), (1, (.v (.int .i64 b209_), []))], [], []⟩) [] [0, 1] [] [] (by kernel_rfl) ?_
          refine Wc.skip ?_
          exact ⟨rfl, h⟩
      · refine Wc.region [{}, {}, {}, {}, { re := some (.bool false) }, {}, {}, { re := some (.bool false) }] [] [0, 1, 19] [] [] ⟨[(0, (.v (.str d208_), [])), (1, (.v (.int .i64 b209_), [])), (19, (.v (.bool false), []))], [], []⟩ _ (by kernel_rfl) (.cons h364 (.cons (congrArg AV.bool h365) (.cons (congrArg AV.bool h366) .nil))) ?_
        refine Wc.condF rfl (by kernel_rfl) ?_
        refine Wc.fix (st' := ⟨[(0, (.v (.str d208_), [])), (1, (.v (.int .i64 b209_), []))], [], []⟩) [] [0, 1] [] [] (by kernel_rfl) ?_
        refine Wc.skip ?_
        exact ⟨rfl, h⟩
  · rintro st ⟨rfl, h⟩
    refine Wc.seq ?_
    rcases oif h with ⟨h361, h⟩ | ⟨h361, h⟩
    · refine Wc.region [{}, {}, {}, {}, {}, { re := some (.bool true) }] [] [4] [] [] ⟨[(4, (.v (.bool true), []))], [], []⟩ _ (by kernel_rfl) (.cons (congrArg AV.bool h361) .nil) ?_
      refine Wc.ret ?_
      obtain rfl := Option.some.inj h
      exact ⟨.inl rfl, by kernel_rfl, by kernel_rfl⟩
    · obtain ⟨h362, h⟩ := oguard h
      obtain ⟨b210_, h363, h⟩ := obind h
      refine Wc.region [{}, {}, {}, {}, {}, { re := some (.bool false) }, {}, {}, {}, {}, { r := some (.v (.int .i64 b210_) []) }] [] [4] [] [] ⟨[(4, (.v (.bool (decide (b210_ ≥ 0))), []))], [], []⟩ _ (by kernel_rfl) (.cons (congrArg AV.bool h361) (.cons h362 (.cons (cstrings_IndexByte h363) .nil))) ?_
      refine Wc.ret ?_
      obtain rfl := Option.some.inj h
      exact ⟨.inl rfl, by kernel_rfl, by kernel_rfl⟩

/-- impl.lower -/
def pimpl_lower (k : Nat) (b212_ : Int) : Option Bool :=
  if (decide (b212_ ≥ 97)) = true then
    some (decide (b212_ ≤ 122))
  else
    some false
theorem cimpl_lower {k : Nat} {b212_ : Int} {r : Bool} (h : pimpl_lower k b212_ = some r) : FnO Tryd.prog 69 [.v (.int .u8 b212_) []] (.v (.bool r) []) [] := by
  refine FnO.of Tryd.func69 (rfl : Tryd.f69.body = some _) (Nat.le_of_ble_eq_true (by kernel_rfl)) (Nat.le_of_ble_eq_true (by kernel_rfl)) ?_
  intro w0 X0 Fin pv0 pb gt
  unfold pimpl_lower at h
  refine Wc.seq ?_
  refine Wc.region [] [] [0] [] [] ⟨[(0, (.v (.int .u8 b212_), []))], [], []⟩ _ (by kernel_rfl) .nil ?_
  refine Wc.seq ?_
  rcases oif h with ⟨h370, h⟩ | ⟨h370, h⟩
  · refine Wc.region [{}, {}, { re := some (.bool true) }] [] [2] [] [] ⟨[(2, (.v (.bool (decide (b212_ ≤ 122))), []))], [], []⟩ _ (by kernel_rfl) (.cons (congrArg AV.bool h370) .nil) ?_
    refine Wc.ret ?_
    obtain rfl := Option.some.inj h
    exact ⟨.inl rfl, by kernel_rfl, by kernel_rfl⟩
  · refine Wc.region [{}, {}, { re := some (.bool false) }] [] [2] [] [] ⟨[(2, (.v (.bool false), []))], [], []⟩ _ (by kernel_rfl) (.cons (congrArg AV.bool h370) .nil) ?_
    refine Wc.ret ?_
    obtain rfl := Option.some.inj h
    exact ⟨.inl rfl, by kernel_rfl, by kernel_rfl⟩

/-- impl.upper -/
def pimpl_upper (k : Nat) (b213_ : Int) : Option Bool :=
  if (decide (b213_ ≥ 65)) = true then
    some (decide (b213_ ≤ 90))
  else
    some false
theorem cimpl_upper {k : Nat} {b213_ : Int} {r : Bool} (h : pimpl_upper k b213_ = some r) : FnO Tryd.prog 70 [.v (.int .u8 b213_) []] (.v (.bool r) []) [] := by
  refine FnO.of Tryd.func70 (rfl : Tryd.f70.body = some _) (Nat.le_of_ble_eq_true (by kernel_rfl)) (Nat.le_of_ble_eq_true (by kernel_rfl)) ?_
  intro w0 X0 Fin pv0 pb gt
  unfold pimpl_upper at h
  refine Wc.seq ?_
  refine Wc.region [] [] [0] [] [] ⟨[(0, (.v (.int .u8 b213_), []))], [], []⟩ _ (by kernel_rfl) .nil ?_
  refine Wc.seq ?_
  rcases oif h with ⟨h371, h⟩ | ⟨h371, h⟩
  · refine Wc.region [{}, {}, { re := some (.bool true) }] [] [2] [] [] ⟨[(2, (.v (.bool (decide (b213_ ≤ 90))), []))], [], []⟩ _ (by kernel_rfl) (.cons (congrArg AV.bool h371) .nil) ?_
    refine Wc.ret ?_
    obtain rfl := Option.some.inj h
    exact ⟨.inl rfl, by kernel_rfl, by kernel_rfl⟩
  · refine Wc.region [{}, {}, { re := some (.bool false) }] [] [2] [] [] ⟨[(2, (.v (.bool false), []))], [], []⟩ _ (by kernel_rfl) (.cons (congrArg AV.bool h371) .nil) ?_
    refine Wc.ret ?_
    obtain rfl := Option.some.inj h
    exact ⟨.inl rfl, by kernel_rfl, by kernel_rfl⟩

/-- impl.figure -/
def pimpl_figure (k : Nat) (b214_ : Int) : Option Bool :=
  if (decide (b214_ ≥ 48)) = true then
    some (decide (b214_ ≤ 57))
  else
    some false
theorem cimpl_figure {k : Nat} {b214_ : Int} {r : Bool} (h : pimpl_figure k b214_ = some r) : FnO Tryd.prog 72 [.v (.int .u8 b214_) []] (.v (.bool r) []) [] := by
  refine FnO.of Tryd.func72 (rfl : Tryd.f72.body = some _) (Nat.le_of_ble_eq_true (by kernel_rfl)) (Nat.le_of_ble_eq_true (by kernel_rfl)) ?_
  intro w0 X0 Fin pv0 pb gt
  unfold pimpl_figure at h
  refine Wc.seq ?_
  refine Wc.region [] [] [0] [] [] ⟨[(0, (.v (.int .u8 b214_), []))], [], []⟩ _ (by kernel_rfl) .nil ?_
  refine Wc.seq ?_
  rcases oif h with ⟨h372, h⟩ | ⟨h372, h⟩
  · refine Wc.region [{}, {}, { re := some (.bool true) }] [] [2] [] [] ⟨[(2, (.v (.bool (decide (b214_ ≤ 57))), []))], [], []⟩ _ (by kernel_rfl) (.cons (congrArg AV.bool h372) .nil) ?_
    refine Wc.ret ?_
    obtain rfl := Option.some.inj h
    exact ⟨.inl rfl, by kernel_rfl, by kernel_rfl⟩
  · refine Wc.region [{}, {}, { re := some (.bool false) }] [] [2] [] [] ⟨[(2, (.v (.bool false), []))], [], []⟩ _ (by kernel_rfl) (.cons (congrArg AV.bool h372) .nil) ?_
    refine Wc.ret ?_
    obtain rfl := Option.some.inj h
    exact ⟨.inl rfl, by kernel_rfl, by kernel_rfl⟩

/-- impl.wordByte -/
def pimpl_wordByte (k : Nat) (b215_ : Int) : Option Bool :=
  (pimpl_lower k b215_).bind fun e216_ =>
  if e216_ = true then
    some true
  else
    (pimpl_upper k b215_).bind fun e217_ =>
    if e217_ = true then
      some true
    else
      (pimpl_figure k b215_).bind fun e218_ =>
      if e218_ = true then
        some true
      else
        some (b215_ == 95)
theorem cimpl_wordByte {k : Nat} {b215_ : Int} {r : Bool} (h : pimpl_wordByte k b215_ = some r) : FnO Tryd.prog 71 [.v (.int .u8 b215_) []] (.v (.bool r) []) [] := by
  refine FnO.of Tryd.func71 (rfl : Tryd.f71.body = some _) (Nat.le_of_ble_eq_true (by kernel_rfl)) (Nat.le_of_ble_eq_true (by kernel_rfl)) ?_
  intro w0 X0 Fin pv0 pb gt
  unfold pimpl_wordByte at h
  refine Wc.seq ?_
  refine Wc.region [] [] [0] [] [] ⟨[(0, (.v (.int .u8 b215_), []))], [], []⟩ _ (by kernel_rfl) .nil ?_
  refine Wc.seq ?_
  obtain ⟨e216_, h373, h⟩ := obind h
  rcases oif h with ⟨h374, h⟩ | ⟨h374, h⟩
  · refine Wc.region [{}, { r := some (.v (.bool e216_) []) }, { re := some (.bool true) }] [] [2] [] [] ⟨[(2, (.v (.bool true), []))], [], []⟩ _ (by kernel_rfl) (.cons (cimpl_lower h373) (.cons (congrArg AV.bool h374) .nil)) ?_
    refine Wc.ret ?_
    obtain rfl := Option.some.inj h
    exact ⟨.inl rfl, by kernel_rfl, by kernel_rfl⟩
  · obtain ⟨e217_, h375, h⟩ := obind h
    rcases oif h with ⟨h376, h⟩ | ⟨h376, h⟩
    · refine Wc.region [{}, { r := some (.v (.bool e216_) []) }, { re := some (.bool false) }, {}, { r := some (.v (.bool e217_) []) }, {}, { re := some (.bool true) }] [] [2] [] [] ⟨[(2, (.v (.bool true), []))], [], []⟩ _ (by kernel_rfl) (.cons (cimpl_lower h373) (.cons (congrArg AV.bool h374) (.cons (cimpl_upper h375) (.cons (congrArg AV.bool h376) .nil)))) ?_
      refine Wc.ret ?_
      obtain rfl := Option.some.inj h
      exact ⟨.inl rfl, by kernel_rfl, by kernel_rfl⟩
    · obtain ⟨e218_, h377, h⟩ := obind h
      rcases oif h with ⟨h378, h⟩ | ⟨h378, h⟩
      · refine Wc.region [{}, { r := some (.v (.bool e216_) []) }, { re := some (.bool false) }, {}, { r := some (.v (.bool e217_) []) }, {}, { re := some (.bool false) }, {}, { r := some (.v (.bool e218_) []) }, {}, { re := some (.bool true) }] [] [2] [] [] ⟨[(2, (.v (.bool true), []))], [], []⟩ _ (by kernel_rfl) (.cons (cimpl_lower h373) (.cons (congrArg AV.bool h374) (.cons (cimpl_upper h375) (.cons (congrArg AV.bool h376) (.cons (cimpl_figure h377) (.cons (congrArg AV.bool h378) .nil)))))) ?_
        refine Wc.ret ?_
        obtain rfl := Option.some.inj h
        exact ⟨.inl rfl, by kernel_rfl, by kernel_rfl⟩
      · refine Wc.region [{}, { r := some (.v (.bool e216_) []) }, { re := some (.bool false) }, {}, { r := some (.v (.bool e217_) []) }, {}, { re := some (.bool false) }, {}, { r := some (.v (.bool e218_) []) }, {}, { re := some (.bool false) }] [] [2] [] [] ⟨[(2, (.v (.bool (b215_ == 95)), []))], [], []⟩ _ (by kernel_rfl) (.cons (cimpl_lower h373) (.cons (congrArg AV.bool h374) (.cons (cimpl_upper h375) (.cons (congrArg AV.bool h376) (.cons (cimpl_figure h377) (.cons (congrArg AV.bool h378) .nil)))))) ?_
        refine Wc.ret ?_
        obtain rfl := Option.some.inj h
        exact ⟨.inl rfl, by kernel_rfl, by kernel_rfl⟩

/-- impl.nextSign$1 -/
def pimpl_nextSign_1 (k : Nat) (b219_ : Int) : Option Bool :=
  (pimpl_within k (wr.i64 b219_) 33 126).bind fun e220_ =>
  if e220_ = true then
    if (b219_ != 39) = true then
      some (b219_ != 34)
    else
      some false
  else
    some false
theorem cimpl_nextSign_1 {k : Nat} {b219_ : Int} {r : Bool} (h : pimpl_nextSign_1 k b219_ = some r) : FnO Tryd.prog 75 [.v (.int .u8 b219_) []] (.v (.bool r) []) [] := by
  refine FnO.of Tryd.func75 (rfl : Tryd.f75.body = some _) (Nat.le_of_ble_eq_true (by kernel_rfl)) (Nat.le_of_ble_eq_true (by kernel_rfl)) ?_
  intro w0 X0 Fin pv0 pb gt
  unfold pimpl_nextSign_1 at h
  refine Wc.seq ?_
  refine Wc.region [] [] [0] [] [] ⟨[(0, (.v (.int .u8 b219_), []))], [], []⟩ _ (by kernel_rfl) .nil ?_
  refine Wc.seq ?_
  obtain ⟨e220_, h379, h⟩ := obind h
  rcases oif h with ⟨h380, h⟩ | ⟨h380, h⟩
  · rcases oif h with ⟨h381, h⟩ | ⟨h381, h⟩
    · refine Wc.region [{}, {}, { r := some (.v (.bool e220_) []) }, { re := some (.bool true) }, {}, {}, {}, { re := some (.bool true) }] [] [2] [] [] ⟨[(2, (.v (.bool (b219_ != 34)), []))], [], []⟩ _ (by kernel_rfl) (.cons (cimpl_within h379) (.cons (congrArg AV.bool h380) (.cons (congrArg AV.bool h381) .nil))) ?_
      refine Wc.ret ?_
      obtain rfl := Option.some.inj h
      exact ⟨.inl rfl, by kernel_rfl, by kernel_rfl⟩
    · refine Wc.region [{}, {}, { r := some (.v (.bool e220_) []) }, { re := some (.bool true) }, {}, {}, {}, { re := some (.bool false) }] [] [2] [] [] ⟨[(2, (.v (.bool false), []))], [], []⟩ _ (by kernel_rfl) (.cons (cimpl_within h379) (.cons (congrArg AV.bool h380) (.cons (congrArg AV.bool h381) .nil))) ?_
      refine Wc.ret ?_
      obtain rfl := Option.some.inj h
      exact ⟨.inl rfl, by kernel_rfl, by kernel_rfl⟩
  · refine Wc.region [{}, {}, { r := some (.v (.bool e220_) []) }, { re := some (.bool false) }] [] [2] [] [] ⟨[(2, (.v (.bool false), []))], [], []⟩ _ (by kernel_rfl) (.cons (cimpl_within h379) (.cons (congrArg AV.bool h380) .nil)) ?_
    refine Wc.ret ?_
    obtain rfl := Option.some.inj h
    exact ⟨.inl rfl, by kernel_rfl, by kernel_rfl⟩

def pimpl_run_on2_pimpl_wordByte_L1 (k : Nat) (d225_ : ByteArray) : Nat → Int → Option (Out Int Int)
  | 0, _ => none
  | m + 1, b227_ =>
    if (decide (b227_ < (d225_.size : Int))) = true then
      if 0 ≤ b227_ ∧ (b227_).toNat < d225_.size then
        (pimpl_wordByte k (bt d225_ b227_)).bind fun e229_ =>
        if e229_ = true then
          pimpl_run_on2_pimpl_wordByte_L1 k d225_ m (wr.i64 (b227_ + 1))
        else
          some (.done b227_)
      else none
    else
      some (.done b227_)
/-- impl.run -/
def pimpl_run_on2_pimpl_wordByte (k : Nat) (d225_ : ByteArray) (b226_ : Int) : Option Int :=
  (pimpl_run_on2_pimpl_wordByte_L1 k d225_ k b226_).bind fun out1 => match out1 with
  | .ret r => some r
  | .done b228_ =>
    some b228_
theorem cimpl_run_on2_pimpl_wordByte {k : Nat} {d225_ : ByteArray} {b226_ : Int} {r : Int} (h : pimpl_run_on2_pimpl_wordByte k d225_ b226_ = some r) : FnO Tryd.prog 61 [.v (.str d225_) [], .v (.int .i64 b226_) [], .v (.func 71 []) []] (.v (.int .i64 r) []) [] := by
  refine FnO.of Tryd.func61 (rfl : Tryd.f61.body = some _) (Nat.le_of_ble_eq_true (by kernel_rfl)) (Nat.le_of_ble_eq_true (by kernel_rfl)) ?_
  intro w0 X0 Fin pv0 pb gt
  unfold pimpl_run_on2_pimpl_wordByte at h
  refine Wc.seq ?_
  refine Wc.region [] [] [0, 1, 2] [] [] ⟨[(0, (.v (.str d225_), [])), (1, (.v (.int .i64 b226_), [])), (2, (.v (.func 71 []), []))], [], []⟩ _ (by kernel_rfl) .nil ?_
  obtain ⟨out1, h386, h⟩ := obind h
  refine Wc.seqJ (fun st => ∃ (b228_ : Int), out1 = .done b228_ ∧ st = ⟨[(1, (.v (.int .i64 b228_), []))], [], []⟩) ?_ ?_
  · refine Wc.block ?_
    refine Wc.loop (fun m st => ∃ (b227_ : Int), st = ⟨[(0, (.v (.str d225_), [])), (1, (.v (.int .i64 b227_), [])), (2, (.v (.func 71 []), []))], [], []⟩ ∧ pimpl_run_on2_pimpl_wordByte_L1 k d225_ m b227_ = some out1) ?_ k ⟨_, rfl, h386⟩
    rintro m st ⟨b227_, rfl, h386⟩
    cases m with
    | zero => exact (onone h386).elim
    | succ m =>
      refine Wc.seq ?_
      refine Wc.seq ?_
      rcases oif h386 with ⟨h387, h386⟩ | ⟨h387, h386⟩
      · obtain ⟨h388, h386⟩ := oguard h386
        obtain ⟨e229_, h389, h386⟩ := obind h386
        refine Wc.region [{}, {}, {}, {}, { re := some (.bool true) }, {}, {}, {}, {}, { r := some (.v (.bool e229_) []) }] [] [0, 1, 2, 17] [] [] ⟨[(0, (.v (.str d225_), [])), (1, (.v (.int .i64 b227_), [])), (2, (.v (.func 71 []), [])), (17, (.v (.bool e229_), []))], [], []⟩ _ (by kernel_rfl) (.cons (congrArg AV.bool h387) (.cons h388 (.cons (cimpl_wordByte h389) .nil))) ?_
        rcases oif h386 with ⟨h390, h386⟩ | ⟨h390, h386⟩
        · refine Wc.condT h390 (by kernel_rfl) ?_
          refine Wc.fix (st' := ⟨[(0, (.v (.str d225_), [])), (1, (.v (.int .i64 b227_), [])), (2, (.v (.func 71 []), []))], [], []⟩) [] [0, 1, 2] [] [] (by kernel_rfl) ?_
          refine Wc.skip ?_
          refine Wc.block ?_
          refine Wc.region [] [] [0, 1, 2] [] [] ⟨[(0, (.v (.str d225_), [])), (1, (.v (.int .i64 (wr.i64 (b227_ + 1))), [])), (2, (.v (.func 71 []), []))], [], []⟩ _ (by kernel_rfl) .nil ?_
          exact ⟨_, Nat.lt_succ_self _, _, rfl, h386⟩
        · refine Wc.condF h390 (by kernel_rfl) ?_
          refine Wc.fix (st' := ⟨[(1, (.v (.int .i64 b227_), []))], [], []⟩) [] [1] [] [] (by kernel_rfl) ?_
          refine Wc.exit ?_
          obtain rfl := Option.some.inj h386
          exact ⟨_, rfl, rfl⟩
      · refine Wc.region [{}, {}, {}, {}, { re := some (.bool false) }] [] [0, 1, 2, 17] [] [] ⟨[(0, (.v (.str d225_), [])), (1, (.v (.int .i64 b227_), [])), (2, (.v (.func 71 []), [])), (17, (.v (.bool false), []))], [], []⟩ _ (by kernel_rfl) (.cons (congrArg AV.bool h387) .nil) ?_
        refine Wc.condF rfl (by kernel_rfl) ?_
        refine Wc.fix (st' := ⟨[(1, (.v (.int .i64 b227_), []))], [], []⟩) [] [1] [] [] (by kernel_rfl) ?_
        refine Wc.exit ?_
        obtain rfl := Option.some.inj h386
        exact ⟨_, rfl, rfl⟩
  · rintro st ⟨b228_, rfl, rfl⟩
    refine Wc.seq ?_
    refine Wc.region [] [] [6] [] [] ⟨[(6, (.v (.int .i64 b228_), []))], [], []⟩ _ (by kernel_rfl) .nil ?_
    refine Wc.ret ?_
    obtain rfl := Option.some.inj h
    exact ⟨.inl rfl, by kernel_rfl, by kernel_rfl⟩

def pimpl_run_on2_pimpl_figure_L1 (k : Nat) (d228_ : ByteArray) : Nat → Int → Option (Out Int Int)
  | 0, _ => none
  | m + 1, b230_ =>
    if (decide (b230_ < (d228_.size : Int))) = true then
      if 0 ≤ b230_ ∧ (b230_).toNat < d228_.size then
        (pimpl_figure k (bt d228_ b230_)).bind fun e232_ =>
        if e232_ = true then
          pimpl_run_on2_pimpl_figure_L1 k d228_ m (wr.i64 (b230_ + 1))
        else
          some (.done b230_)
      else none
    else
      some (.done b230_)
/-- impl.run -/
def pimpl_run_on2_pimpl_figure (k : Nat) (d228_ : ByteArray) (b229_ : Int) : Option Int :=
  (pimpl_run_on2_pimpl_figure_L1 k d228_ k b229_).bind fun out1 => match out1 with
  | .ret r => some r
  | .done b231_ =>
    some b231_
theorem cimpl_run_on2_pimpl_figure {k : Nat} {d228_ : ByteArray} {b229_ : Int} {r : Int} (h : pimpl_run_on2_pimpl_figure k d228_ b229_ = some r) : FnO Tryd.prog 61 [.v (.str d228_) [], .v (.int .i64 b229_) [], .v (.func 72 []) []] (.v (.int .i64 r) []) [] := by
  refine FnO.of Tryd.func61 (rfl : Tryd.f61.body = some _) (Nat.le_of_ble_eq_true (by kernel_rfl)) (Nat.le_of_ble_eq_true (by kernel_rfl)) ?_
  intro w0 X0 Fin pv0 pb gt
  unfold pimpl_run_on2_pimpl_figure at h
  refine Wc.seq ?_
  refine Wc.region [] [] [0, 1, 2] [] [] ⟨[(0, (.v (.str d228_), [])), (1, (.v (.int .i64 b229_), [])), (2, (.v (.func 72 []), []))], [], []⟩ _ (by kernel_rfl) .nil ?_
  obtain ⟨out1, h391, h⟩ := obind h
  refine Wc.seqJ (fun st => ∃ (b231_ : Int), out1 = .done b231_ ∧ st = ⟨[(1, (.v (.int .i64 b231_), []))], [], []⟩) ?_ ?_
  · refine Wc.block ?_
    refine Wc.loop (fun m st => ∃ (b230_ : Int), st = ⟨[(0, (.v (.str d228_), [])), (1, (.v (.int .i64 b230_), [])), (2, (.v (.func 72 []), []))], [], []⟩ ∧ pimpl_run_on2_pimpl_figure_L1 k d228_ m b230_ = some out1) ?_ k ⟨_, rfl, h391⟩
    rintro m st ⟨b230_, rfl, h391⟩
    cases m with
    | zero => exact (onone h391).elim
    | succ m =>
      refine Wc.seq ?_
      refine Wc.seq ?_
      rcases oif h391 with ⟨h392, h391⟩ | ⟨h392, h391⟩
      · obtain ⟨h393, h391⟩ := oguard h391
        obtain ⟨e232_, h394, h391⟩ := obind h391
        refine Wc.region [{}, {}, {}, {}, { re := some (.bool true) }, {}, {}, {}, {}, { r := some (.v (.bool e232_) []) }] [] [0, 1, 2, 17] [] [] ⟨[(0, (.v (.str d228_), [])), (1, (.v (.int .i64 b230_), [])), (2, (.v (.func 72 []), [])), (17, (.v (.bool e232_), []))], [], []⟩ _ (by kernel_rfl) (.cons (congrArg AV.bool h392) (.cons h393 (.cons (cimpl_figure h394) .nil))) ?_
        rcases oif h391 with ⟨h395, h391⟩ | ⟨h395, h391⟩
        · refine Wc.condT h395 (by kernel_rfl) ?_
          refine Wc.fix (st' := ⟨[(0, (.v (.str d228_), [])), (1, (.v (.int .i64 b230_), [])), (2, (.v (.func 72 []), []))], [], []⟩) [] [0, 1, 2] [] [] (by kernel_rfl) ?_
          refine Wc.skip ?_
          refine Wc.block ?_
          refine Wc.region [] [] [0, 1, 2] [] [] ⟨[(0, (.v (.str d228_), [])), (1, (.v (.int .i64 (wr.i64 (b230_ + 1))), [])), (2, (.v (.func 72 []), []))], [], []⟩ _ (by kernel_rfl) .nil ?_
          exact ⟨_, Nat.lt_succ_self _, _, rfl, h391⟩
        · refine Wc.condF h395 (by kernel_rfl) ?_
          refine Wc.fix (st' := ⟨[(1, (.v (.int .i64 b230_), []))], [], []⟩) [] [1] [] [] (by kernel_rfl) ?_
          refine Wc.exit ?_
          obtain rfl := Option.some.inj h391
          exact ⟨_, rfl, rfl⟩
      · refine Wc.region [{}, {}, {}, {}, { re := some (.bool false) }] [] [0, 1, 2, 17] [] [] ⟨[(0, (.v (.str d228_), [])), (1, (.v (.int .i64 b230_), [])), (2, (.v (.func 72 []), [])), (17, (.v (.bool false), []))], [], []⟩ _ (by kernel_rfl) (.cons (congrArg AV.bool h392) .nil) ?_
        refine Wc.condF rfl (by kernel_rfl) ?_
        refine Wc.fix (st' := ⟨[(1, (.v (.int .i64 b230_), []))], [], []⟩) [] [1] [] [] (by kernel_rfl) ?_
        refine Wc.exit ?_
        obtain rfl := Option.some.inj h391
        exact ⟨_, rfl, rfl⟩
  · rintro st ⟨b231_, rfl, rfl⟩
    refine Wc.seq ?_
    refine Wc.region [] [] [6] [] [] ⟨[(6, (.v (.int .i64 b231_), []))], [], []⟩ _ (by kernel_rfl) .nil ?_
    refine Wc.ret ?_
    obtain rfl := Option.some.inj h
    exact ⟨.inl rfl, by kernel_rfl, by kernel_rfl⟩

def pimpl_run_on2_pimpl_SymbolByte_L1 (k : Nat) (d233_ : ByteArray) : Nat → Int → Option (Out Int Int)
  | 0, _ => none
  | m + 1, b235_ =>
    if (decide (b235_ < (d233_.size : Int))) = true then
      if 0 ≤ b235_ ∧ (b235_).toNat < d233_.size then
        (pimpl_SymbolByte k (bt d233_ b235_)).bind fun e237_ =>
        if e237_ = true then
          pimpl_run_on2_pimpl_SymbolByte_L1 k d233_ m (wr.i64 (b235_ + 1))
        else
          some (.done b235_)
      else none
    else
      some (.done b235_)
/-- impl.run -/
def pimpl_run_on2_pimpl_SymbolByte (k : Nat) (d233_ : ByteArray) (b234_ : Int) : Option Int :=
  (pimpl_run_on2_pimpl_SymbolByte_L1 k d233_ k b234_).bind fun out1 => match out1 with
  | .ret r => some r
  | .done b236_ =>
    some b236_
theorem cimpl_run_on2_pimpl_SymbolByte {k : Nat} {d233_ : ByteArray} {b234_ : Int} {r : Int} (h : pimpl_run_on2_pimpl_SymbolByte k d233_ b234_ = some r) : FnO Tryd.prog 61 [.v (.str d233_) [], .v (.int .i64 b234_) [], .v (.func 73 []) []] (.v (.int .i64 r) []) [] := by
  refine FnO.of Tryd.func61 (rfl : Tryd.f61.body = some _) (Nat.le_of_ble_eq_true (by kernel_rfl)) (Nat.le_of_ble_eq_true (by kernel_rfl)) ?_
  intro w0 X0 Fin pv0 pb gt
  unfold pimpl_run_on2_pimpl_SymbolByte at h
  refine Wc.seq ?_
  refine Wc.region [] [] [0, 1, 2] [] [] ⟨[(0, (.v (.str d233_), [])), (1, (.v (.int .i64 b234_), [])), (2, (.v (.func 73 []), []))], [], []⟩ _ (by kernel_rfl) .nil ?_
  obtain ⟨out1, h399, h⟩ := obind h
  refine Wc.seqJ (fun st => ∃ (b236_ : Int), out1 = .done b236_ ∧ st = ⟨[(1, (.v (.int .i64 b236_), []))], [], []⟩) ?_ ?_
  · refine Wc.block ?_
    refine Wc.loop (fun m st => ∃ (b235_ : Int), st = ⟨[(0, (.v (.str d233_), [])), (1, (.v (.int .i64 b235_), [])), (2, (.v (.func 73 []), []))], [], []⟩ ∧ pimpl_run_on2_pimpl_SymbolByte_L1 k d233_ m b235_ = some out1) ?_ k ⟨_, rfl, h399⟩
    rintro m st ⟨b235_, rfl, h399⟩
    cases m with
    | zero => exact (onone h399).elim
    | succ m =>
      refine Wc.seq ?_
      refine Wc.seq ?_
      rcases oif h399 with ⟨h400, h399⟩ | ⟨h400, h399⟩
      · obtain ⟨h401, h399⟩ := oguard h399
        obtain ⟨e237_, h402, h399⟩ := obind h399
        refine Wc.region [{}, {}, {}, {}, { re := some (.bool true) }, {}, {}, {}, {}, { r := some (.v (.bool e237_) []) }] [] [0, 1, 2, 17] [] [] ⟨[(0, (.v (.str d233_), [])), (1, (.v (.int .i64 b235_), [])), (2, (.v (.func 73 []), [])), (17, (.v (.bool e237_), []))], [], []⟩ _ (by kernel_rfl) (.cons (congrArg AV.bool h400) (.cons h401 (.cons (cimpl_SymbolByte h402) .nil))) ?_
        rcases oif h399 with ⟨h403, h399⟩ | ⟨h403, h399⟩
        · refine Wc.condT h403 (by kernel_rfl) ?_
          refine Wc.fix (st' := ⟨[(0, (.v (.str d233_), [])), (1, (.v (.int .i64 b235_), [])), (2, (.v (.func 73 []), []))], [], []⟩) [] [0, 1, 2] [] [] (by kernel_rfl) ?_
          refine Wc.skip ?_
          refine Wc.block ?_
          refine Wc.region [] [] [0, 1, 2] [] [] ⟨[(0, (.v (.str d233_), [])), (1, (.v (.int .i64 (wr.i64 (b235_ + 1))), [])), (2, (.v (.func 73 []), []))], [], []⟩ _ (by kernel_rfl) .nil ?_
          exact ⟨_, Nat.lt_succ_self _, _, rfl, h399⟩
        · refine Wc.condF h403 (by kernel_rfl) ?_
          refine Wc.fix (st' := ⟨[(1, (.v (.int .i64 b235_), []))], [], []⟩) [] [1] [] [] (by kernel_rfl) ?_
          refine Wc.exit ?_
          obtain rfl := Option.some.inj h399
          exact ⟨_, rfl, rfl⟩
      · refine Wc.region [{}, {}, {}, {}, { re := some (.bool false) }] [] [0, 1, 2, 17] [] [] ⟨[(0, (.v (.str d233_), [])), (1, (.v (.int .i64 b235_), [])), (2, (.v (.func 73 []), [])), (17, (.v (.bool false), []))], [], []⟩ _ (by kernel_rfl) (.cons (congrArg AV.bool h400) .nil) ?_
        refine Wc.condF rfl (by kernel_rfl) ?_
        refine Wc.fix (st' := ⟨[(1, (.v (.int .i64 b235_), []))], [], []⟩) [] [1] [] [] (by kernel_rfl) ?_
        refine Wc.exit ?_
        obtain rfl := Option.some.inj h399
        exact ⟨_, rfl, rfl⟩
  · rintro st ⟨b236_, rfl, rfl⟩
    refine Wc.seq ?_
    refine Wc.region [] [] [6] [] [] ⟨[(6, (.v (.int .i64 b236_), []))], [], []⟩ _ (by kernel_rfl) .nil ?_
    refine Wc.ret ?_
    obtain rfl := Option.some.inj h
    exact ⟨.inl rfl, by kernel_rfl, by kernel_rfl⟩

def pimpl_run_on2_pimpl_nextSign_1_L1 (k : Nat) (d241_ : ByteArray) : Nat → Int → Option (Out Int Int)
  | 0, _ => none
  | m + 1, b243_ =>
    if (decide (b243_ < (d241_.size : Int))) = true then
      if 0 ≤ b243_ ∧ (b243_).toNat < d241_.size then
        (pimpl_nextSign_1 k (bt d241_ b243_)).bind fun e245_ =>
        if e245_ = true then
          pimpl_run_on2_pimpl_nextSign_1_L1 k d241_ m (wr.i64 (b243_ + 1))
        else
          some (.done b243_)
      else none
    else
      some (.done b243_)
/-- impl.run -/
def pimpl_run_on2_pimpl_nextSign_1 (k : Nat) (d241_ : ByteArray) (b242_ : Int) : Option Int :=
  (pimpl_run_on2_pimpl_nextSign_1_L1 k d241_ k b242_).bind fun out1 => match out1 with
  | .ret r => some r
  | .done b244_ =>
    some b244_
theorem cimpl_run_on2_pimpl_nextSign_1 {k : Nat} {d241_ : ByteArray} {b242_ : Int} {r : Int} (h : pimpl_run_on2_pimpl_nextSign_1 k d241_ b242_ = some r) : FnO Tryd.prog 61 [.v (.str d241_) [], .v (.int .i64 b242_) [], .v (.func 75 []) []] (.v (.int .i64 r) []) [] := by
  refine FnO.of Tryd.func61 (rfl : Tryd.f61.body = some _) (Nat.le_of_ble_eq_true (by kernel_rfl)) (Nat.le_of_ble_eq_true (by kernel_rfl)) ?_
  intro w0 X0 Fin pv0 pb gt
  unfold pimpl_run_on2_pimpl_nextSign_1 at h
  refine Wc.seq ?_
  refine Wc.region [] [] [0, 1, 2] [] [] ⟨[(0, (.v (.str d241_), [])), (1, (.v (.int .i64 b242_), [])), (2, (.v (.func 75 []), []))], [], []⟩ _ (by kernel_rfl) .nil ?_
  obtain ⟨out1, h409, h⟩ := obind h
  refine Wc.seqJ (fun st => ∃ (b244_ : Int), out1 = .done b244_ ∧ st = ⟨[(1, (.v (.int .i64 b244_), []))], [], []⟩) ?_ ?_
  · refine Wc.block ?_
    refine Wc.loop (fun m st => ∃ (b243_ : Int), st = ⟨[(0, (.v (.str d241_), [])), (1, (.v (.int .i64 b243_), [])), (2, (.v (.func 75 []), []))], [], []⟩ ∧ pimpl_run_on2_pimpl_nextSign_1_L1 k d241_ m b243_ = some out1) ?_ k ⟨_, rfl, h409⟩
    rintro m st ⟨b243_, rfl, h409⟩
    cases m with
    | zero => exact (onone h409).elim
    | succ m =>
      refine Wc.seq ?_
      refine Wc.seq ?_
      rcases oif h409 with ⟨h410, h409⟩ | ⟨h410, h409⟩
      · obtain ⟨h411, h409⟩ := oguard h409
        obtain ⟨e245_, h412, h409⟩ := obind h409
        refine Wc.region [{}, {}, {}, {}, { re := some (.bool true) }, {}, {}, {}, {}, { r := some (.v (.bool e245_) []) }] [] [0, 1, 2, 17] [] [] ⟨[(0, (.v (.str d241_), [])), (1, (.v (.int .i64 b243_), [])), (2, (.v (.func 75 []), [])), (17, (.v (.bool e245_), []))], [], []⟩ _ (by kernel_rfl) (.cons (congrArg AV.bool h410) (.cons h411 (.cons (cimpl_nextSign_1 h412) .nil))) ?_
        rcases oif h409 with ⟨h413, h409⟩ | ⟨h413, h409⟩
        · refine Wc.condT h413 (by kernel_rfl) ?_
          refine Wc.fix (st' := ⟨[(0, (.v (.str d241_), [])), (1, (.v (.int .i64 b243_), [])), (2, (.v (.func 75 []), []))], [], []⟩) [] [0, 1, 2] [] [] (by kernel_rfl) ?_
          refine Wc.skip ?_
          refine Wc.block ?_
          refine Wc.region [] [] [0, 1, 2] [] [] ⟨[(0, (.v (.str d241_), [])), (1, (.v (.int .i64 (wr.i64 (b243_ + 1))), [])), (2, (.v (.func 75 []), []))], [], []⟩ _ (by kernel_rfl) .nil ?_
          exact ⟨_, Nat.lt_succ_self _, _, rfl, h409⟩
        · refine Wc.condF h413 (by kernel_rfl) ?_
          refine Wc.fix (st' := ⟨[(1, (.v (.int .i64 b243_), []))], [], []⟩) [] [1] [] [] (by kernel_rfl) ?_
          refine Wc.exit ?_
          obtain rfl := Option.some.inj h409
          exact ⟨_, rfl, rfl⟩
      · refine Wc.region [{}, {}, {}, {}, { re := some (.bool false) }] [] [0, 1, 2, 17] [] [] ⟨[(0, (.v (.str d241_), [])), (1, (.v (.int .i64 b243_), [])), (2, (.v (.func 75 []), [])), (17, (.v (.bool false), []))], [], []⟩ _ (by kernel_rfl) (.cons (congrArg AV.bool h410) .nil) ?_
        refine Wc.condF rfl (by kernel_rfl) ?_
        refine Wc.fix (st' := ⟨[(1, (.v (.int .i64 b243_), []))], [], []⟩) [] [1] [] [] (by kernel_rfl) ?_
        refine Wc.exit ?_
        obtain rfl := Option.some.inj h409
        exact ⟨_, rfl, rfl⟩
  · rintro st ⟨b244_, rfl, rfl⟩
    refine Wc.seq ?_
    refine Wc.region [] [] [6] [] [] ⟨[(6, (.v (.int .i64 b244_), []))], [], []⟩ _ (by kernel_rfl) .nil ?_
    refine Wc.ret ?_
    obtain rfl := Option.some.inj h
    exact ⟨.inl rfl, by kernel_rfl, by kernel_rfl⟩

def pimpl_nextSign_J2 (k : Nat) (b222_ : Int) (d221_ : ByteArray) (l224_ : GSign) (b223_ : Int) (e225_ : Bool) : Option (GSign × Int) :=
  if e225_ = true then
    if 0 ≤ b222_ ∧ b222_ ≤ (wr.i64 (b222_ + 1)) ∧ (wr.i64 (b222_ + 1)) ≤ (d221_.size : Int) then
      some (GSign.mk 6 (d221_.extract (b222_ : Int).toNat ((wr.i64 (b222_ + 1)) : Int).toNat) l224_.gNum l224_.gAt l224_.gNear, wr.i64 (b222_ + 1))
    else none
  else
    some (GSign.mk l224_.gKind (d221_.extract (b222_ : Int).toNat (b223_ : Int).toNat) l224_.gNum l224_.gAt l224_.gNear, b223_)
def pimpl_nextSign_J1 (k : Nat) (b222_ : Int) (d221_ : ByteArray) (b223_ : Int) (l224_ : GSign) : Option (GSign × Int) :=
  if 0 ≤ b222_ ∧ b222_ ≤ b223_ ∧ b223_ ≤ (d221_.size : Int) then
    if (l224_.gKind == 0) = true then
      pimpl_nextSign_J2 k b222_ d221_ l224_ b223_ true
    else
      if (l224_.gKind != 4) = true then
        pimpl_nextSign_J2 k b222_ d221_ l224_ b223_ (decide (((d221_.extract (b222_ : Int).toNat (b223_ : Int).toNat).size : Int) > 20))
      else
        pimpl_nextSign_J2 k b222_ d221_ l224_ b223_ false
  else none
def pimpl_nextSign_L4 (k : Nat) (b231_ : Int) (d221_ : ByteArray) : Nat → Int → Int → Option (Out (GSign × Int) Int)
  | 0, _, _ => none
  | m + 1, b232_, b233_ =>
    if (decide (b233_ < b231_)) = true then
      if (decide (b232_ ≤ 999999999)) = true then
        if 0 ≤ b233_ ∧ (b233_).toNat < d221_.size then
          pimpl_nextSign_L4 k b231_ d221_ m (wr.i64 ((wr.i64 (10 * b232_)) + (wr.i64 (wr.u8 ((bt d221_ b233_) - 48))))) (wr.i64 (b233_ + 1))
        else none
      else
        some (.done b232_)
    else
      some (.done b232_)
def pimpl_nextSign_J6 (k : Nat) (b222_ : Int) (b239_ : Int) (d221_ : ByteArray) (e240_ : Bool) : Option (GSign × Int) :=
  if e240_ = true then
    if 0 ≤ (wr.i64 (b222_ + 1)) ∧ (wr.i64 (b222_ + 1)) ≤ b239_ ∧ b239_ ≤ (d221_.size : Int) then
      some (GSign.mk 1 (d221_.extract ((wr.i64 (b222_ + 1)) : Int).toNat (b239_ : Int).toNat) 0 b222_ false, wr.i64 (b239_ + 1))
    else none
  else
    pimpl_nextSign_J1 k b222_ d221_ (wr.i64 (b222_ + 1)) (GSign.mk 0 (bs []) 0 b222_ false)
def pimpl_nextSign_J5 (k : Nat) (b222_ : Int) (d221_ : ByteArray) (e237_ : Bool) : Option (GSign × Int) :=
  if e237_ = true then
    pimpl_nextSign_J1 k b222_ d221_ (wr.i64 (b222_ + 1)) (GSign.mk 1 (bs []) 0 b222_ false)
  else
    (pstrings_IndexByte k (bs [40, 41, 91, 93, 44, 124]) (bt d221_ b222_)).bind fun b238_ =>
    if (decide (b238_ ≥ 0)) = true then
      pimpl_nextSign_J1 k b222_ d221_ (wr.i64 (b222_ + 1)) (GSign.mk 4 (bs []) 0 b222_ false)
    else
      if ((bt d221_ b222_) == 39) = true then
        (pimpl_run_on2_pimpl_nextSign_1 k d221_ (wr.i64 (b222_ + 1))).bind fun b239_ =>
        if (decide (b239_ < (d221_.size : Int))) = true then
          if 0 ≤ b239_ ∧ (b239_).toNat < d221_.size then
            if ((bt d221_ b239_) == 39) = true then
              (pimpl_within k (wr.i64 ((wr.i64 (b239_ - b222_)) - 1)) 1 20).bind fun e241_ =>
              pimpl_nextSign_J6 k b222_ b239_ d221_ e241_
            else
              pimpl_nextSign_J6 k b222_ b239_ d221_ false
          else none
        else
          pimpl_nextSign_J6 k b222_ b239_ d221_ false
      else
        pimpl_nextSign_J1 k b222_ d221_ (wr.i64 (b222_ + 1)) (GSign.mk 0 (bs []) 0 b222_ false)
def pimpl_nextSign_J3 (k : Nat) (d221_ : ByteArray) (b222_ : Int) (e227_ : Bool) : Option (GSign × Int) :=
  if e227_ = true then
    (pimpl_run_on2_pimpl_wordByte k d221_ b222_).bind fun b228_ =>
    (pimpl_lower k (bt d221_ b222_)).bind fun e229_ =>
    if e229_ = true then
      pimpl_nextSign_J1 k b222_ d221_ b228_ (GSign.mk 1 (bs []) 0 b222_ false)
    else
      pimpl_nextSign_J1 k b222_ d221_ b228_ (GSign.mk 2 (bs []) 0 b222_ false)
  else
    (pimpl_figure k (bt d221_ b222_)).bind fun e230_ =>
    if e230_ = true then
      (pimpl_run_on2_pimpl_figure k d221_ b222_).bind fun b231_ =>
      (pimpl_nextSign_L4 k b231_ d221_ k 0 b222_).bind fun out4 => match out4 with
      | .ret r => some r
      | .done b234_ =>
        if (decide (b234_ ≤ 999999999)) = true then
          some (GSign.mk 3 (bs []) b234_ b222_ false, b231_)
        else
          pimpl_nextSign_J1 k b222_ d221_ b231_ (GSign.mk 0 (bs []) 0 b222_ false)
    else
      (pimpl_SymbolByte k (bt d221_ b222_)).bind fun e235_ =>
      if e235_ = true then
        (pimpl_run_on2_pimpl_SymbolByte k d221_ b222_).bind fun b236_ =>
        pimpl_nextSign_J1 k b222_ d221_ b236_ (GSign.mk 1 (bs []) 0 b222_ false)
      else
        if ((bt d221_ b222_) == 33) = true then
          pimpl_nextSign_J5 k b222_ d221_ true
        else
          pimpl_nextSign_J5 k b222_ d221_ ((bt d221_ b222_) == 59)
/-- impl.nextSign -/
def pimpl_nextSign (k : Nat) (d221_ : ByteArray) (b222_ : Int) : Option (GSign × Int) :=
  if 0 ≤ b222_ ∧ (b222_).toNat < d221_.size then
    (pimpl_endsHere k d221_ b222_).bind fun e226_ =>
    if e226_ = true then
      some (GSign.mk 5 (bs [46]) 0 b222_ false, wr.i64 (b222_ + 1))
    else
      (pimpl_lower k (bt d221_ b222_)).bind fun e242_ =>
      if e242_ = true then
        pimpl_nextSign_J3 k d221_ b222_ true
      else
        (pimpl_upper k (bt d221_ b222_)).bind fun e243_ =>
        if e243_ = true then
          pimpl_nextSign_J3 k d221_ b222_ true
        else
          pimpl_nextSign_J3 k d221_ b222_ ((bt d221_ b222_) == 95)
  else none
set_option maxHeartbeats 4000000 in
theorem cimpl_nextSign {k : Nat} {d221_ : ByteArray} {b222_ : Int} {r : GSign × Int} (h : pimpl_nextSign k d221_ b222_ = some r) : FnO Tryd.prog 63 [.v (.str d221_) [], .v (.int .i64 b222_) []] (.v (.tup [.agg [.int .i64 r.1.gKind, .str r.1.gText, .int .i64 r.1.gNum, .int .i64 r.1.gAt, .bool r.1.gNear], .int .i64 r.2]) []) [] := by
  refine FnO.of Tryd.func63 (rfl : Tryd.f63.body = some _) (Nat.le_of_ble_eq_true (by kernel_rfl)) (Nat.le_of_ble_eq_true (by kernel_rfl)) ?_
  intro w0 X0 Fin pv0 pb gt
  unfold pimpl_nextSign at h
  refine Wc.seq ?_
  refine Wc.region [] [] [0, 1, 4] [4] [] ⟨[(0, (.v (.str d221_), [])), (1, (.v (.int .i64 b222_), [])), (4, (.ptr 4 0, []))], [(4, .cells [.int .i64 0, .str (bs []), .int .i64 0, .int .i64 0, .bool false] [])], []⟩ _ (by kernel_rfl) .nil ?_
  refine Wc.seq ?_
  obtain ⟨h382, h⟩ := oguard h
  refine Wc.region [] [] [0, 1, 4, 6] [4] [] ⟨[(0, (.v (.str d221_), [])), (1, (.v (.int .i64 b222_), [])), (4, (.ptr 4 0, [])), (6, (.v (.int .u8 (bt d221_ b222_)), []))], [(4, .cells [.int .i64 0, .str (bs []), .int .i64 0, .int .i64 0, .bool false] [])], []⟩ _ (by kernel_rfl) (.cons h382 .nil) ?_
  refine Wc.seq ?_
  refine Wc.region [] [] [0, 1, 4, 6, 7] [4, 7] [] ⟨[(0, (.v (.str d221_), [])), (1, (.v (.int .i64 b222_), [])), (4, (.ptr 4 0, [])), (6, (.v (.int .u8 (bt d221_ b222_)), [])), (7, (.ptr 7 0, []))], [(4, .cells [.int .i64 0, .str (bs []), .int .i64 0, .int .i64 0, .bool false] []), (7, .cells [.int .i64 0, .str (bs []), .int .i64 0, .int .i64 b222_, .bool false] [])], []⟩ _ (by kernel_rfl) .nil ?_
  refine Wc.seq ?_
  refine Wc.region [] [] [0, 1, 4, 6, 7, 8] [4, 7] [] ⟨[(0, (.v (.str d221_), [])), (1, (.v (.int .i64 b222_), [])), (4, (.ptr 4 0, [])), (6, (.v (.int .u8 (bt d221_ b222_)), [])), (7, (.ptr 7 0, [])), (8, (.v (.int .i64 (wr.i64 (b222_ + 1))), []))], [(4, .cells [.int .i64 0, .str (bs []), .int .i64 0, .int .i64 0, .bool false] []), (7, .cells [.int .i64 0, .str (bs []), .int .i64 0, .int .i64 b222_, .bool false] [])], []⟩ _ (by kernel_rfl) .nil ?_
  refine Wc.seqJ (fun st => ∃ (b223_ : Int) (l224_ : GSign), st = ⟨[(0, (.v (.str d221_), [])), (1, (.v (.int .i64 b222_), [])), (4, (.ptr 4 0, [])), (7, (.ptr 7 0, [])), (8, (.v (.int .i64 b223_), []))], [(4, .cells [.int .i64 0, .str (bs []), .int .i64 0, .int .i64 0, .bool false] []), (7, .cells [.int .i64 l224_.gKind, .str l224_.gText, .int .i64 l224_.gNum, .int .i64 l224_.gAt, .bool l224_.gNear] [])], []⟩ ∧ pimpl_nextSign_J1 k b222_ d221_ b223_ l224_ = some r) ?_ ?_
  · refine Wc.block ?_
    refine Wc.seq ?_
    obtain ⟨e226_, h388, h⟩ := obind h
    refine Wc.region [{}, {}, { r := some (.v (.bool e226_) []) }] [] [0, 1, 4, 6, 7, 8, 19] [4, 7] [] ⟨[(0, (.v (.str d221_), [])), (1, (.v (.int .i64 b222_), [])), (4, (.ptr 4 0, [])), (6, (.v (.int .u8 (bt d221_ b222_)), [])), (7, (.ptr 7 0, [])), (8, (.v (.int .i64 (wr.i64 (b222_ + 1))), [])), (19, (.v (.bool e226_), []))], [(4, .cells [.int .i64 0, .str (bs []), .int .i64 0, .int .i64 0, .bool false] []), (7, .cells [.int .i64 0, .str (bs []), .int .i64 0, .int .i64 b222_, .bool false] [])], []⟩ _ (by kernel_rfl) (.cons (cimpl_endsHere h388) .nil) ?_
    rcases oif h with ⟨h389, h⟩ | ⟨h389, h⟩
    · refine Wc.condT h389 (by kernel_rfl) ?_
      refine Wc.seq ?_
      refine Wc.region [] [] [4, 7, 8] [4, 7] [] ⟨[(4, (.ptr 4 0, [])), (7, (.ptr 7 0, [])), (8, (.v (.int .i64 (wr.i64 (b222_ + 1))), []))], [(4, .cells [.int .i64 0, .str (bs []), .int .i64 0, .int .i64 0, .bool false] []), (7, .cells [.int .i64 5, .str (bs [46]), .int .i64 0, .int .i64 b222_, .bool false] [])], []⟩ _ (by kernel_rfl) .nil ?_
      refine Wc.seq ?_
      refine Wc.region [] [] [4, 5] [4] [] ⟨[(4, (.ptr 4 0, [])), (5, (.v (.int .i64 (wr.i64 (b222_ + 1))), []))], [(4, .cells [.int .i64 5, .str (bs [46]), .int .i64 0, .int .i64 b222_, .bool false] [])], []⟩ _ (by kernel_rfl) .nil ?_
      refine Wc.ret ?_
      obtain rfl := Option.some.inj h
      exact ⟨.inl rfl, by kernel_rfl, by kernel_rfl⟩
    · refine Wc.condF h389 (by kernel_rfl) ?_
      refine Wc.seqJ (fun st => ∃ (e227_ : Bool), st = ⟨[(0, (.v (.str d221_), [])), (1, (.v (.int .i64 b222_), [])), (4, (.ptr 4 0, [])), (6, (.v (.int .u8 (bt d221_ b222_)), [])), (7, (.ptr 7 0, [])), (8, (.v (.int .i64 (wr.i64 (b222_ + 1))), [])), (27, (.v (.bool e227_), []))], [(4, .cells [.int .i64 0, .str (bs []), .int .i64 0, .int .i64 0, .bool false] []), (7, .cells [.int .i64 0, .str (bs []), .int .i64 0, .int .i64 b222_, .bool false] [])], []⟩ ∧ pimpl_nextSign_J3 k d221_ b222_ e227_ = some r) ?_ ?_
      · obtain ⟨e242_, h417, h⟩ := obind h
        rcases oif h with ⟨h418, h⟩ | ⟨h418, h⟩
        · refine Wc.region [{}, { r := some (.v (.bool e242_) []) }, { re := some (.bool true) }] [] [0, 1, 4, 6, 7, 8, 27] [4, 7] [] ⟨[(0, (.v (.str d221_), [])), (1, (.v (.int .i64 b222_), [])), (4, (.ptr 4 0, [])), (6, (.v (.int .u8 (bt d221_ b222_)), [])), (7, (.ptr 7 0, [])), (8, (.v (.int .i64 (wr.i64 (b222_ + 1))), [])), (27, (.v (.bool true), []))], [(4, .cells [.int .i64 0, .str (bs []), .int .i64 0, .int .i64 0, .bool false] []), (7, .cells [.int .i64 0, .str (bs []), .int .i64 0, .int .i64 b222_, .bool false] [])], []⟩ _ (by kernel_rfl) (.cons (cimpl_lower h417) (.cons (congrArg AV.bool h418) .nil)) ?_
          exact ⟨_, rfl, h⟩
        · obtain ⟨e243_, h419, h⟩ := obind h
          rcases oif h with ⟨h420, h⟩ | ⟨h420, h⟩
          · refine Wc.region [{}, { r := some (.v (.bool e242_) []) }, { re := some (.bool false) }, {}, { r := some (.v (.bool e243_) []) }, {}, { re := some (.bool true) }] [] [0, 1, 4, 6, 7, 8, 27] [4, 7] [] ⟨[(0, (.v (.str d221_), [])), (1, (.v (.int .i64 b222_), [])), (4, (.ptr 4 0, [])), (6, (.v (.int .u8 (bt d221_ b222_)), [])), (7, (.ptr 7 0, [])), (8, (.v (.int .i64 (wr.i64 (b222_ + 1))), [])), (27, (.v (.bool true), []))], [(4, .cells [.int .i64 0, .str (bs []), .int .i64 0, .int .i64 0, .bool false] []), (7, .cells [.int .i64 0, .str (bs []), .int .i64 0, .int .i64 b222_, .bool false] [])], []⟩ _ (by kernel_rfl) (.cons (cimpl_lower h417) (.cons (congrArg AV.bool h418) (.cons (cimpl_upper h419) (.cons (congrArg AV.bool h420) .nil)))) ?_
            exact ⟨_, rfl, h⟩
          · refine Wc.region [{}, { r := some (.v (.bool e242_) []) }, { re := some (.bool false) }, {}, { r := some (.v (.bool e243_) []) }, {}, { re := some (.bool false) }] [] [0, 1, 4, 6, 7, 8, 27] [4, 7] [] ⟨[(0, (.v (.str d221_), [])), (1, (.v (.int .i64 b222_), [])), (4, (.ptr 4 0, [])), (6, (.v (.int .u8 (bt d221_ b222_)), [])), (7, (.ptr 7 0, [])), (8, (.v (.int .i64 (wr.i64 (b222_ + 1))), [])), (27, (.v (.bool ((bt d221_ b222_) == 95)), []))], [(4, .cells [.int .i64 0, .str (bs []), .int .i64 0, .int .i64 0, .bool false] []), (7, .cells [.int .i64 0, .str (bs []), .int .i64 0, .int .i64 b222_, .bool false] [])], []⟩ _ (by kernel_rfl) (.cons (cimpl_lower h417) (.cons (congrArg AV.bool h418) (.cons (cimpl_upper h419) (.cons (congrArg AV.bool h420) .nil)))) ?_
            exact ⟨_, rfl, h⟩
      · rintro st ⟨e227_, rfl, h⟩
        rcases oif h with ⟨h390, h⟩ | ⟨h390, h⟩
        · refine Wc.condT h390 (by kernel_rfl) ?_
          refine Wc.seq ?_
          obtain ⟨b228_, h391, h⟩ := obind h
          refine Wc.region [{}, {}, { r := some (.v (.int .i64 b228_) []) }] [] [0, 1, 4, 6, 7, 8] [4, 7] [] ⟨[(0, (.v (.str d221_), [])), (1, (.v (.int .i64 b222_), [])), (4, (.ptr 4 0, [])), (6, (.v (.int .u8 (bt d221_ b222_)), [])), (7, (.ptr 7 0, [])), (8, (.v (.int .i64 b228_), []))], [(4, .cells [.int .i64 0, .str (bs []), .int .i64 0, .int .i64 0, .bool false] []), (7, .cells [.int .i64 0, .str (bs []), .int .i64 0, .int .i64 b222_, .bool false] [])], []⟩ _ (by kernel_rfl) (.cons (cimpl_run_on2_pimpl_wordByte h391) .nil) ?_
          refine Wc.seq ?_
          refine Wc.region [] [] [0, 1, 4, 6, 7, 8] [4, 7] [] ⟨[(0, (.v (.str d221_), [])), (1, (.v (.int .i64 b222_), [])), (4, (.ptr 4 0, [])), (6, (.v (.int .u8 (bt d221_ b222_)), [])), (7, (.ptr 7 0, [])), (8, (.v (.int .i64 b228_), []))], [(4, .cells [.int .i64 0, .str (bs []), .int .i64 0, .int .i64 0, .bool false] []), (7, .cells [.int .i64 2, .str (bs []), .int .i64 0, .int .i64 b222_, .bool false] [])], []⟩ _ (by kernel_rfl) .nil ?_
          refine Wc.seq ?_
          obtain ⟨e229_, h392, h⟩ := obind h
          refine Wc.region [{}, { r := some (.v (.bool e229_) []) }] [] [0, 1, 4, 7, 8, 43] [4, 7] [] ⟨[(0, (.v (.str d221_), [])), (1, (.v (.int .i64 b222_), [])), (4, (.ptr 4 0, [])), (7, (.ptr 7 0, [])), (8, (.v (.int .i64 b228_), [])), (43, (.v (.bool e229_), []))], [(4, .cells [.int .i64 0, .str (bs []), .int .i64 0, .int .i64 0, .bool false] []), (7, .cells [.int .i64 2, .str (bs []), .int .i64 0, .int .i64 b222_, .bool false] [])], []⟩ _ (by kernel_rfl) (.cons (cimpl_lower h392) .nil) ?_
          rcases oif h with ⟨h393, h⟩ | ⟨h393, h⟩
          · refine Wc.condT h393 (by kernel_rfl) ?_
            refine Wc.region [] [] [0, 1, 4, 7, 8] [4, 7] [] ⟨[(0, (.v (.str d221_), [])), (1, (.v (.int .i64 b222_), [])), (4, (.ptr 4 0, [])), (7, (.ptr 7 0, [])), (8, (.v (.int .i64 b228_), []))], [(4, .cells [.int .i64 0, .str (bs []), .int .i64 0, .int .i64 0, .bool false] []), (7, .cells [.int .i64 1, .str (bs []), .int .i64 0, .int .i64 b222_, .bool false] [])], []⟩ _ (by kernel_rfl) .nil ?_
            exact ⟨_, _, rfl, h⟩
          · refine Wc.condF h393 (by kernel_rfl) ?_
            refine Wc.fix (st' := ⟨[(0, (.v (.str d221_), [])), (1, (.v (.int .i64 b222_), [])), (4, (.ptr 4 0, [])), (7, (.ptr 7 0, [])), (8, (.v (.int .i64 b228_), []))], [(4, .cells [.int .i64 0, .str (bs []), .int .i64 0, .int .i64 0, .bool false] []), (7, .cells [.int .i64 2, .str (bs []), .int .i64 0, .int .i64 b222_, .bool false] [])], []⟩) [] [0, 1, 4, 7, 8] [4, 7] [] (by kernel_rfl) ?_
            refine Wc.skip ?_
            exact ⟨_, _, rfl, h⟩
        · refine Wc.condF h390 (by kernel_rfl) ?_
          refine Wc.seq ?_
          obtain ⟨e230_, h394, h⟩ := obind h
          refine Wc.region [{}, { r := some (.v (.bool e230_) []) }] [] [0, 1, 4, 6, 7, 8, 45] [4, 7] [] ⟨[(0, (.v (.str d221_), [])), (1, (.v (.int .i64 b222_), [])), (4, (.ptr 4 0, [])), (6, (.v (.int .u8 (bt d221_ b222_)), [])), (7, (.ptr 7 0, [])), (8, (.v (.int .i64 (wr.i64 (b222_ + 1))), [])), (45, (.v (.bool e230_), []))], [(4, .cells [.int .i64 0, .str (bs []), .int .i64 0, .int .i64 0, .bool false] []), (7, .cells [.int .i64 0, .str (bs []), .int .i64 0, .int .i64 b222_, .bool false] [])], []⟩ _ (by kernel_rfl) (.cons (cimpl_figure h394) .nil) ?_
          rcases oif h with ⟨h395, h⟩ | ⟨h395, h⟩
          · refine Wc.condT h395 (by kernel_rfl) ?_
            refine Wc.seq ?_
            obtain ⟨b231_, h396, h⟩ := obind h
            refine Wc.region [{}, {}, { r := some (.v (.int .i64 b231_) []) }] [] [0, 1, 4, 7, 8] [4, 7] [] ⟨[(0, (.v (.str d221_), [])), (1, (.v (.int .i64 b222_), [])), (4, (.ptr 4 0, [])), (7, (.ptr 7 0, [])), (8, (.v (.int .i64 b231_), []))], [(4, .cells [.int .i64 0, .str (bs []), .int .i64 0, .int .i64 0, .bool false] []), (7, .cells [.int .i64 0, .str (bs []), .int .i64 0, .int .i64 b222_, .bool false] [])], []⟩ _ (by kernel_rfl) (.cons (cimpl_run_on2_pimpl_figure h396) .nil) ?_
            refine Wc.seq ?_
            refine Wc.region [] [] [0, 1, 4, 7, 8, 9] [4, 7] [] ⟨[(0, (.v (.str d221_), [])), (1, (.v (.int .i64 b222_), [])), (4, (.ptr 4 0, [])), (7, (.ptr 7 0, [])), (8, (.v (.int .i64 b231_), [])), (9, (.v (.int .i64 0), []))], [(4, .cells [.int .i64 0, .str (bs []), .int .i64 0, .int .i64 0, .bool false] []), (7, .cells [.int .i64 0, .str (bs []), .int .i64 0, .int .i64 b222_, .bool false] [])], []⟩ _ (by kernel_rfl) .nil ?_
            refine Wc.seq ?_
            refine Wc.seq ?_
            refine Wc.region [] [] [0, 1, 4, 7, 8, 9, 10] [4, 7] [] ⟨[(0, (.v (.str d221_), [])), (1, (.v (.int .i64 b222_), [])), (4, (.ptr 4 0, [])), (7, (.ptr 7 0, [])), (8, (.v (.int .i64 b231_), [])), (9, (.v (.int .i64 0), [])), (10, (.v (.int .i64 b222_), []))], [(4, .cells [.int .i64 0, .str (bs []), .int .i64 0, .int .i64 0, .bool false] []), (7, .cells [.int .i64 0, .str (bs []), .int .i64 0, .int .i64 b222_, .bool false] [])], []⟩ _ (by kernel_rfl) .nil ?_
            obtain ⟨out4, h397, h⟩ := obind h
            refine Wc.lastJ (fun st => ∃ (b234_ : Int), out4 = .done b234_ ∧ st = ⟨[(0, (.v (.str d221_), [])), (1, (.v (.int .i64 b222_), [])), (4, (.ptr 4 0, [])), (7, (.ptr 7 0, [])), (8, (.v (.int .i64 b231_), [])), (9, (.v (.int .i64 b234_), []))], [(4, .cells [.int .i64 0, .str (bs []), .int .i64 0, .int .i64 0, .bool false] []), (7, .cells [.int .i64 0, .str (bs []), .int .i64 0, .int .i64 b222_, .bool false] [])], []⟩) ?_ ?_
            · refine Wc.block ?_
              refine Wc.loop (fun m st => ∃ (b232_ : Int) (b233_ : Int), st = ⟨[(0, (.v (.str d221_), [])), (1, (.v (.int .i64 b222_), [])), (4, (.ptr 4 0, [])), (7, (.ptr 7 0, [])), (8, (.v (.int .i64 b231_), [])), (9, (.v (.int .i64 b232_), [])), (10, (.v (.int .i64 b233_), []))], [(4, .cells [.int .i64 0, .str (bs []), .int .i64 0, .int .i64 0, .bool false] []), (7, .cells [.int .i64 0, .str (bs []), .int .i64 0, .int .i64 b222_, .bool false] [])], []⟩ ∧ pimpl_nextSign_L4 k b231_ d221_ m b232_ b233_ = some out4) ?_ k ⟨_, _, rfl, h397⟩
              rintro m st ⟨b232_, b233_, rfl, h397⟩
              cases m with
              | zero => exact (onone h397).elim
              | succ m =>
                refine Wc.seq ?_
                refine Wc.seq ?_
                rcases oif h397 with ⟨h398, h397⟩ | ⟨h398, h397⟩
                · refine Wc.region [{}, {}, {}, { re := some (.bool true) }] [] [0, 1, 4, 7, 8, 9, 10, 58] [4, 7] [] ⟨[(0, (.v (.str d221_), [])), (1, (.v (.int .i64 b222_), [])), (4, (.ptr 4 0, [])), (7, (.ptr 7 0, [])), (8, (.v (.int .i64 b231_), [])), (9, (.v (.int .i64 b232_), [])), (10, (.v (.int .i64 b233_), [])), (58, (.v (.bool (decide (b232_ ≤ 999999999))), []))], [(4, .cells [.int .i64 0, .str (bs []), .int .i64 0, .int .i64 0, .bool false] []), (7, .cells [.int .i64 0, .str (bs []), .int .i64 0, .int .i64 b222_, .bool false] [])], []⟩ _ (by kernel_rfl) (.cons (congrArg AV.bool h398) .nil) ?_
                  rcases oif h397 with ⟨h399, h397⟩ | ⟨h399, h397⟩
                  · refine Wc.condT h399 (by kernel_rfl) ?_
                    refine Wc.fix (st' := ⟨[(0, (.v (.str d221_), [])), (1, (.v (.int .i64 b222_), [])), (4, (.ptr 4 0, [])), (7, (.ptr 7 0, [])), (8, (.v (.int .i64 b231_), [])), (9, (.v (.int .i64 b232_), [])), (10, (.v (.int .i64 b233_), []))], [(4, .cells [.int .i64 0, .str (bs []), .int .i64 0, .int .i64 0, .bool false] []), (7, .cells [.int .i64 0, .str (bs []), .int .i64 0, .int .i64 b222_, .bool false] [])], []⟩) [] [0, 1, 4, 7, 8, 9, 10] [4, 7] [] (by kernel_rfl) ?_
                    refine Wc.skip ?_
                    refine Wc.seq ?_
                    refine Wc.block ?_
                    obtain ⟨h400, h397⟩ := oguard h397
                    refine Wc.region [] [] [0, 1, 4, 7, 8, 9, 10] [4, 7] [] ⟨[(0, (.v (.str d221_), [])), (1, (.v (.int .i64 b222_), [])), (4, (.ptr 4 0, [])), (7, (.ptr 7 0, [])), (8, (.v (.int .i64 b231_), [])), (9, (.v (.int .i64 (wr.i64 ((wr.i64 (10 * b232_)) + (wr.i64 (wr.u8 ((bt d221_ b233_) - 48)))))), [])), (10, (.v (.int .i64 b233_), []))], [(4, .cells [.int .i64 0, .str (bs []), .int .i64 0, .int .i64 0, .bool false] []), (7, .cells [.int .i64 0, .str (bs []), .int .i64 0, .int .i64 b222_, .bool false] [])], []⟩ _ (by kernel_rfl) (.cons h400 .nil) ?_
                    refine Wc.region [] [] [0, 1, 4, 7, 8, 9, 10] [4, 7] [] ⟨[(0, (.v (.str d221_), [])), (1, (.v (.int .i64 b222_), [])), (4, (.ptr 4 0, [])), (7, (.ptr 7 0, [])), (8, (.v (.int .i64 b231_), [])), (9, (.v (.int .i64 (wr.i64 ((wr.i64 (10 * b232_)) + (wr.i64 (wr.u8 ((bt d221_ b233_) - 48)))))), [])), (10, (.v (.int .i64 (wr.i64 (b233_ + 1))), []))], [(4, .cells [.int .i64 0, .str (bs []), .int .i64 0, .int .i64 0, .bool false] []), (7, .cells [.int .i64 0, .str (bs []), .int .i64 0, .int .i64 b222_, .bool false] [])], []⟩ _ (by kernel_rfl) .nil ?_
                    exact ⟨_, Nat.lt_succ_self _, _, _, rfl, h397⟩
                  · refine Wc.condF h399 (by kernel_rfl) ?_
                    refine Wc.fix (st' := ⟨[(0, (.v (.str d221_), [])), (1, (.v (.int .i64 b222_), [])), (4, (.ptr 4 0, [])), (7, (.ptr 7 0, [])), (8, (.v (.int .i64 b231_), [])), (9, (.v (.int .i64 b232_), []))], [(4, .cells [.int .i64 0, .str (bs []), .int .i64 0, .int .i64 0, .bool false] []), (7, .cells [.int .i64 0, .str (bs []), .int .i64 0, .int .i64 b222_, .bool false] [])], []⟩) [] [0, 1, 4, 7, 8, 9] [4, 7] [] (by kernel_rfl) ?_
                    refine Wc.exit ?_
                    obtain rfl := Option.some.inj h397
                    exact ⟨_, rfl, rfl⟩
                · refine Wc.region [{}, {}, {}, { re := some (.bool false) }] [] [0, 1, 4, 7, 8, 9, 10, 58] [4, 7] [] ⟨[(0, (.v (.str d221_), [])), (1, (.v (.int .i64 b222_), [])), (4, (.ptr 4 0, [])), (7, (.ptr 7 0, [])), (8, (.v (.int .i64 b231_), [])), (9, (.v (.int .i64 b232_), [])), (10, (.v (.int .i64 b233_), [])), (58, (.v (.bool false), []))], [(4, .cells [.int .i64 0, .str (bs []), .int .i64 0, .int .i64 0, .bool false] []), (7, .cells [.int .i64 0, .str (bs []), .int .i64 0, .int .i64 b222_, .bool false] [])], []⟩ _ (by kernel_rfl) (.cons (congrArg AV.bool h398) .nil) ?_
                  refine Wc.condF rfl (by kernel_rfl) ?_
                  refine Wc.fix (st' := ⟨[(0, (.v (.str d221_), [])), (1, (.v (.int .i64 b222_), [])), (4, (.ptr 4 0, [])), (7, (.ptr 7 0, [])), (8, (.v (.int .i64 b231_), [])), (9, (.v (.int .i64 b232_), []))], [(4, .cells [.int .i64 0, .str (bs []), .int .i64 0, .int .i64 0, .bool false] []), (7, .cells [.int .i64 0, .str (bs []), .int .i64 0, .int .i64 b222_, .bool false] [])], []⟩) [] [0, 1, 4, 7, 8, 9] [4, 7] [] (by kernel_rfl) ?_
                  refine Wc.exit ?_
                  obtain rfl := Option.some.inj h397
                  exact ⟨_, rfl, rfl⟩
            · rintro st ⟨b234_, rfl, rfl⟩
              refine Wc.seq ?_
              refine Wc.region [] [] [0, 1, 4, 7, 8, 9, 70] [4, 7] [] ⟨[(0, (.v (.str d221_), [])), (1, (.v (.int .i64 b222_), [])), (4, (.ptr 4 0, [])), (7, (.ptr 7 0, [])), (8, (.v (.int .i64 b231_), [])), (9, (.v (.int .i64 b234_), [])), (70, (.v (.bool (decide (b234_ ≤ 999999999))), []))], [(4, .cells [.int .i64 0, .str (bs []), .int .i64 0, .int .i64 0, .bool false] []), (7, .cells [.int .i64 0, .str (bs []), .int .i64 0, .int .i64 b222_, .bool false] [])], []⟩ _ (by kernel_rfl) .nil ?_
              rcases oif h with ⟨h401, h⟩ | ⟨h401, h⟩
              · refine Wc.condT h401 (by kernel_rfl) ?_
                refine Wc.seq ?_
                refine Wc.region [] [] [4, 7, 8] [4, 7] [] ⟨[(4, (.ptr 4 0, [])), (7, (.ptr 7 0, [])), (8, (.v (.int .i64 b231_), []))], [(4, .cells [.int .i64 0, .str (bs []), .int .i64 0, .int .i64 0, .bool false] []), (7, .cells [.int .i64 3, .str (bs []), .int .i64 b234_, .int .i64 b222_, .bool false] [])], []⟩ _ (by kernel_rfl) .nil ?_
                refine Wc.seq ?_
                refine Wc.region [] [] [4, 5] [4] [] ⟨[(4, (.ptr 4 0, [])), (5, (.v (.int .i64 b231_), []))], [(4, .cells [.int .i64 3, .str (bs []), .int .i64 b234_, .int .i64 b222_, .bool false] [])], []⟩ _ (by kernel_rfl) .nil ?_
                refine Wc.ret ?_
                obtain rfl := Option.some.inj h
                exact ⟨.inl rfl, by kernel_rfl, by kernel_rfl⟩
              · refine Wc.condF h401 (by kernel_rfl) ?_
                refine Wc.fix (st' := ⟨[(0, (.v (.str d221_), [])), (1, (.v (.int .i64 b222_), [])), (4, (.ptr 4 0, [])), (7, (.ptr 7 0, [])), (8, (.v (.int .i64 b231_), []))], [(4, .cells [.int .i64 0, .str (bs []), .int .i64 0, .int .i64 0, .bool false] []), (7, .cells [.int .i64 0, .str (bs []), .int .i64 0, .int .i64 b222_, .bool false] [])], []⟩) [] [0, 1, 4, 7, 8] [4, 7] [] (by kernel_rfl) ?_
                refine Wc.skip ?_
                exact ⟨_, _, rfl, h⟩
          · refine Wc.condF h395 (by kernel_rfl) ?_
            refine Wc.seq ?_
            obtain ⟨e235_, h402, h⟩ := obind h
            refine Wc.region [{}, { r := some (.v (.bool e235_) []) }] [] [0, 1, 4, 6, 7, 8, 76] [4, 7] [] ⟨[(0, (.v (.str d221_), [])), (1, (.v (.int .i64 b222_), [])), (4, (.ptr 4 0, [])), (6, (.v (.int .u8 (bt d221_ b222_)), [])), (7, (.ptr 7 0, [])), (8, (.v (.int .i64 (wr.i64 (b222_ + 1))), [])), (76, (.v (.bool e235_), []))], [(4, .cells [.int .i64 0, .str (bs []), .int .i64 0, .int .i64 0, .bool false] []), (7, .cells [.int .i64 0, .str (bs []), .int .i64 0, .int .i64 b222_, .bool false] [])], []⟩ _ (by kernel_rfl) (.cons (cimpl_SymbolByte h402) .nil) ?_
            rcases oif h with ⟨h403, h⟩ | ⟨h403, h⟩
            · refine Wc.condT h403 (by kernel_rfl) ?_
              refine Wc.seq ?_
              obtain ⟨b236_, h404, h⟩ := obind h
              refine Wc.region [{}, {}, { r := some (.v (.int .i64 b236_) []) }] [] [0, 1, 4, 7, 8] [4, 7] [] ⟨[(0, (.v (.str d221_), [])), (1, (.v (.int .i64 b222_), [])), (4, (.ptr 4 0, [])), (7, (.ptr 7 0, [])), (8, (.v (.int .i64 b236_), []))], [(4, .cells [.int .i64 0, .str (bs []), .int .i64 0, .int .i64 0, .bool false] []), (7, .cells [.int .i64 0, .str (bs []), .int .i64 0, .int .i64 b222_, .bool false] [])], []⟩ _ (by kernel_rfl) (.cons (cimpl_run_on2_pimpl_SymbolByte h404) .nil) ?_
              refine Wc.region [] [] [0, 1, 4, 7, 8] [4, 7] [] ⟨[(0, (.v (.str d221_), [])), (1, (.v (.int .i64 b222_), [])), (4, (.ptr 4 0, [])), (7, (.ptr 7 0, [])), (8, (.v (.int .i64 b236_), []))], [(4, .cells [.int .i64 0, .str (bs []), .int .i64 0, .int .i64 0, .bool false] []), (7, .cells [.int .i64 1, .str (bs []), .int .i64 0, .int .i64 b222_, .bool false] [])], []⟩ _ (by kernel_rfl) .nil ?_
              exact ⟨_, _, rfl, h⟩
            · refine Wc.condF h403 (by kernel_rfl) ?_
              refine Wc.seqJ (fun st => ∃ (e237_ : Bool), st = ⟨[(0, (.v (.str d221_), [])), (1, (.v (.int .i64 b222_), [])), (4, (.ptr 4 0, [])), (6, (.v (.int .u8 (bt d221_ b222_)), [])), (7, (.ptr 7 0, [])), (8, (.v (.int .i64 (wr.i64 (b222_ + 1))), [])), (83, (.v (.bool e237_), []))], [(4, .cells [.int .i64 0, .str (bs []), .int .i64 0, .int .i64 0, .bool false] []), (7, .cells [.int .i64 0, .str (bs []), .int .i64 0, .int .i64 b222_, .bool false] [])], []⟩ ∧ pimpl_nextSign_J5 k b222_ d221_ e237_ = some r) ?_ ?_
              · rcases oif h with ⟨h416, h⟩ | ⟨h416, h⟩
                · refine Wc.region [{}, {}, { re := some (.bool true) }] [] [0, 1, 4, 6, 7, 8, 83] [4, 7] [] ⟨[(0, (.v (.str d221_), [])), (1, (.v (.int .i64 b222_), [])), (4, (.ptr 4 0, [])), (6, (.v (.int .u8 (bt d221_ b222_)), [])), (7, (.ptr 7 0, [])), (8, (.v (.int .i64 (wr.i64 (b222_ + 1))), [])), (83, (.v (.bool true), []))], [(4, .cells [.int .i64 0, .str (bs []), .int .i64 0, .int .i64 0, .bool false] []), (7, .cells [.int .i64 0, .str (bs []), .int .i64 0, .int .i64 b222_, .bool false] [])], []⟩ _ (by kernel_rfl) (.cons (congrArg AV.bool h416) .nil) ?_
                  exact ⟨_, rfl, h⟩
                · refine Wc.region [{}, {}, { re := some (.bool false) }] [] [0, 1, 4, 6, 7, 8, 83] [4, 7] [] ⟨[(0, (.v (.str d221_), [])), (1, (.v (.int .i64 b222_), [])), (4, (.ptr 4 0, [])), (6, (.v (.int .u8 (bt d221_ b222_)), [])), (7, (.ptr 7 0, [])), (8, (.v (.int .i64 (wr.i64 (b222_ + 1))), [])), (83, (.v (.bool ((bt d221_ b222_) == 59)), []))], [(4, .cells [.int .i64 0, .str (bs []), .int .i64 0, .int .i64 0, .bool false] []), (7, .cells [.int .i64 0, .str (bs []), .int .i64 0, .int .i64 b222_, .bool false] [])], []⟩ _ (by kernel_rfl) (.cons (congrArg AV.bool h416) .nil) ?_
                  exact ⟨_, rfl, h⟩
              · rintro st ⟨e237_, rfl, h⟩
                rcases oif h with ⟨h405, h⟩ | ⟨h405, h⟩
                · refine Wc.condT h405 (by kernel_rfl) ?_
                  refine Wc.region [] [] [0, 1, 4, 7, 8] [4, 7] [] ⟨[(0, (.v (.str d221_), [])), (1, (.v (.int .i64 b222_), [])), (4, (.ptr 4 0, [])), (7, (.ptr 7 0, [])), (8, (.v (.int .i64 (wr.i64 (b222_ + 1))), []))], [(4, .cells [.int .i64 0, .str (bs []), .int .i64 0, .int .i64 0, .bool false] []), (7, .cells [.int .i64 1, .str (bs []), .int .i64 0, .int .i64 b222_, .bool false] [])], []⟩ _ (by kernel_rfl) .nil ?_
                  exact ⟨_, _, rfl, h⟩
                · refine Wc.condF h405 (by kernel_rfl) ?_
                  refine Wc.seq ?_
                  obtain ⟨b238_, h406, h⟩ := obind h
                  refine Wc.region [{}, { r := some (.v (.int .i64 b238_) []) }] [] [0, 1, 4, 6, 7, 8, 91] [4, 7] [] ⟨[(0, (.v (.str d221_), [])), (1, (.v (.int .i64 b222_), [])), (4, (.ptr 4 0, [])), (6, (.v (.int .u8 (bt d221_ b222_)), [])), (7, (.ptr 7 0, [])), (8, (.v (.int .i64 (wr.i64 (b222_ + 1))), [])), (91, (.v (.bool (decide (b238_ ≥ 0))), []))], [(4, .cells [.int .i64 0, .str (bs []), .int .i64 0, .int .i64 0, .bool false] []), (7, .cells [.int .i64 0, .str (bs []), .int .i64 0, .int .i64 b222_, .bool false] [])], []⟩ _ (by kernel_rfl) (.cons (cstrings_IndexByte h406) .nil) ?_
                  rcases oif h with ⟨h407, h⟩ | ⟨h407, h⟩
                  · refine Wc.condT h407 (by kernel_rfl) ?_
                    refine Wc.region [] [] [0, 1, 4, 7, 8] [4, 7] [] ⟨[(0, (.v (.str d221_), [])), (1, (.v (.int .i64 b222_), [])), (4, (.ptr 4 0, [])), (7, (.ptr 7 0, [])), (8, (.v (.int .i64 (wr.i64 (b222_ + 1))), []))], [(4, .cells [.int .i64 0, .str (bs []), .int .i64 0, .int .i64 0, .bool false] []), (7, .cells [.int .i64 4, .str (bs []), .int .i64 0, .int .i64 b222_, .bool false] [])], []⟩ _ (by kernel_rfl) .nil ?_
                    exact ⟨_, _, rfl, h⟩
                  · refine Wc.condF h407 (by kernel_rfl) ?_
                    refine Wc.seq ?_
                    refine Wc.region [] [] [0, 1, 4, 7, 8, 96] [4, 7] [] ⟨[(0, (.v (.str d221_), [])), (1, (.v (.int .i64 b222_), [])), (4, (.ptr 4 0, [])), (7, (.ptr 7 0, [])), (8, (.v (.int .i64 (wr.i64 (b222_ + 1))), [])), (96, (.v (.bool ((bt d221_ b222_) == 39)), []))], [(4, .cells [.int .i64 0, .str (bs []), .int .i64 0, .int .i64 0, .bool false] []), (7, .cells [.int .i64 0, .str (bs []), .int .i64 0, .int .i64 b222_, .bool false] [])], []⟩ _ (by kernel_rfl) .nil ?_
                    rcases oif h with ⟨h408, h⟩ | ⟨h408, h⟩
                    · refine Wc.condT h408 (by kernel_rfl) ?_
                      refine Wc.seq ?_
                      obtain ⟨b239_, h409, h⟩ := obind h
                      refine Wc.region [{}, {}, {}, { r := some (.v (.int .i64 b239_) []) }] [] [0, 1, 4, 7, 8, 11] [4, 7] [] ⟨[(0, (.v (.str d221_), [])), (1, (.v (.int .i64 b222_), [])), (4, (.ptr 4 0, [])), (7, (.ptr 7 0, [])), (8, (.v (.int .i64 (wr.i64 (b222_ + 1))), [])), (11, (.v (.int .i64 b239_), []))], [(4, .cells [.int .i64 0, .str (bs []), .int .i64 0, .int .i64 0, .bool false] []), (7, .cells [.int .i64 0, .str (bs []), .int .i64 0, .int .i64 b222_, .bool false] [])], []⟩ _ (by kernel_rfl) (.cons (cimpl_run_on2_pimpl_nextSign_1 h409) .nil) ?_
                      refine Wc.seqJ (fun st => ∃ (e240_ : Bool), st = ⟨[(0, (.v (.str d221_), [])), (1, (.v (.int .i64 b222_), [])), (4, (.ptr 4 0, [])), (7, (.ptr 7 0, [])), (8, (.v (.int .i64 (wr.i64 (b222_ + 1))), [])), (11, (.v (.int .i64 b239_), [])), (119, (.v (.bool e240_), []))], [(4, .cells [.int .i64 0, .str (bs []), .int .i64 0, .int .i64 0, .bool false] []), (7, .cells [.int .i64 0, .str (bs []), .int .i64 0, .int .i64 b222_, .bool false] [])], []⟩ ∧ pimpl_nextSign_J6 k b222_ b239_ d221_ e240_ = some r) ?_ ?_
                      · rcases oif h with ⟨h412, h⟩ | ⟨h412, h⟩
                        · obtain ⟨h413, h⟩ := oguard h
                          rcases oif h with ⟨h414, h⟩ | ⟨h414, h⟩
                          · obtain ⟨e241_, h415, h⟩ := obind h
                            refine Wc.region [{}, {}, {}, {}, { re := some (.bool true) }, {}, {}, {}, {}, {}, { re := some (.bool true) }, {}, {}, {}, {}, { r := some (.v (.bool e241_) []) }] [] [0, 1, 4, 7, 8, 11, 119] [4, 7] [] ⟨[(0, (.v (.str d221_), [])), (1, (.v (.int .i64 b222_), [])), (4, (.ptr 4 0, [])), (7, (.ptr 7 0, [])), (8, (.v (.int .i64 (wr.i64 (b222_ + 1))), [])), (11, (.v (.int .i64 b239_), [])), (119, (.v (.bool e241_), []))], [(4, .cells [.int .i64 0, .str (bs []), .int .i64 0, .int .i64 0, .bool false] []), (7, .cells [.int .i64 0, .str (bs []), .int .i64 0, .int .i64 b222_, .bool false] [])], []⟩ _ (by kernel_rfl) (.cons (congrArg AV.bool h412) (.cons h413 (.cons (congrArg AV.bool h414) (.cons (cimpl_within h415) .nil)))) ?_
                            exact ⟨_, rfl, h⟩
                          · refine Wc.region [{}, {}, {}, {}, { re := some (.bool true) }, {}, {}, {}, {}, {}, { re := some (.bool false) }] [] [0, 1, 4, 7, 8, 11, 119] [4, 7] [] ⟨[(0, (.v (.str d221_), [])), (1, (.v (.int .i64 b222_), [])), (4, (.ptr 4 0, [])), (7, (.ptr 7 0, [])), (8, (.v (.int .i64 (wr.i64 (b222_ + 1))), [])), (11, (.v (.int .i64 b239_), [])), (119, (.v (.bool false), []))], [(4, .cells [.int .i64 0, .str (bs []), .int .i64 0, .int .i64 0, .bool false] []), (7, .cells [.int .i64 0, .str (bs []), .int .i64 0, .int .i64 b222_, .bool false] [])], []⟩ _ (by kernel_rfl) (.cons (congrArg AV.bool h412) (.cons h413 (.cons (congrArg AV.bool h414) .nil))) ?_
                            exact ⟨_, rfl, h⟩
                        · refine Wc.region [{}, {}, {}, {}, { re := some (.bool false) }] [] [0, 1, 4, 7, 8, 11, 119] [4, 7] [] ⟨[(0, (.v (.str d221_), [])), (1, (.v (.int .i64 b222_), [])), (4, (.ptr 4 0, [])), (7, (.ptr 7 0, [])), (8, (.v (.int .i64 (wr.i64 (b222_ + 1))), [])), (11, (.v (.int .i64 b239_), [])), (119, (.v (.bool false), []))], [(4, .cells [.int .i64 0, .str (bs []), .int .i64 0, .int .i64 0, .bool false] []), (7, .cells [.int .i64 0, .str (bs []), .int .i64 0, .int .i64 b222_, .bool false] [])], []⟩ _ (by kernel_rfl) (.cons (congrArg AV.bool h412) .nil) ?_
                          exact ⟨_, rfl, h⟩
                      · rintro st ⟨e240_, rfl, h⟩
                        rcases oif h with ⟨h410, h⟩ | ⟨h410, h⟩
                        · refine Wc.condT h410 (by kernel_rfl) ?_
                          refine Wc.seq ?_
                          obtain ⟨h411, h⟩ := oguard h
                          refine Wc.draw hmix [] [] [4, 7, 11] [4, 7] [] ⟨[(4, (.ptr 4 0, [])), (7, (.ptr 7 0, [])), (11, (.v (.int .i64 b239_), []))], [(4, .cells [.int .i64 0, .str (bs []), .int .i64 0, .int .i64 0, .bool false] []), (7, .cells [.int .i64 1, .str (d221_.extract ((wr.i64 (b222_ + 1)) : Int).toNat (b239_ : Int).toNat), .int .i64 0, .int .i64 b222_, .bool false] [])], []⟩ _ (by kernel_rfl) (fun X => by kernel_rfl) (.cons h411 .nil) ?_
                          refine Wc.seq ?_
                          refine Wc.region [] [] [4, 5] [4] [] ⟨[(4, (.ptr 4 0, [])), (5, (.v (.int .i64 (wr.i64 (b239_ + 1))), []))], [(4, .cells [.int .i64 1, .str (d221_.extract ((wr.i64 (b222_ + 1)) : Int).toNat (b239_ : Int).toNat), .int .i64 0, .int .i64 b222_, .bool false] [])], []⟩ _ (by kernel_rfl) .nil ?_
                          refine Wc.ret ?_
                          obtain rfl := Option.some.inj h
                          exact ⟨.inl rfl, by kernel_rfl, by kernel_rfl⟩
                        · refine Wc.condF h410 (by kernel_rfl) ?_
                          refine Wc.fix (st' := ⟨[(0, (.v (.str d221_), [])), (1, (.v (.int .i64 b222_), [])), (4, (.ptr 4 0, [])), (7, (.ptr 7 0, [])), (8, (.v (.int .i64 (wr.i64 (b222_ + 1))), []))], [(4, .cells [.int .i64 0, .str (bs []), .int .i64 0, .int .i64 0, .bool false] []), (7, .cells [.int .i64 0, .str (bs []), .int .i64 0, .int .i64 b222_, .bool false] [])], []⟩) [] [0, 1, 4, 7, 8] [4, 7] [] (by kernel_rfl) ?_
                          refine Wc.skip ?_
                          exact ⟨_, _, rfl, h⟩
                    · refine Wc.condF h408 (by kernel_rfl) ?_
                      refine Wc.fix (st' := ⟨[(0, (.v (.str d221_), [])), (1, (.v (.int .i64 b222_), [])), (4, (.ptr 4 0, [])), (7, (.ptr 7 0, [])), (8, (.v (.int .i64 (wr.i64 (b222_ + 1))), []))], [(4, .cells [.int .i64 0, .str (bs []), .int .i64 0, .int .i64 0, .bool false] []), (7, .cells [.int .i64 0, .str (bs []), .int .i64 0, .int .i64 b222_, .bool false] [])], []⟩) [] [0, 1, 4, 7, 8] [4, 7] [] (by kernel_rfl) ?_
                      refine Wc.skip ?_
                      exact ⟨_, _, rfl, h⟩
  · rintro st ⟨b223_, l224_, rfl, h⟩
    refine Wc.seq ?_
    obtain ⟨h383, h⟩ := oguard h
    refine Wc.region [] [] [0, 1, 4, 7, 8] [4, 7] [] ⟨[(0, (.v (.str d221_), [])), (1, (.v (.int .i64 b222_), [])), (4, (.ptr 4 0, [])), (7, (.ptr 7 0, [])), (8, (.v (.int .i64 b223_), []))], [(4, .cells [.int .i64 0, .str (bs []), .int .i64 0, .int .i64 0, .bool false] []), (7, .cells [.int .i64 l224_.gKind, .str (d221_.extract (b222_ : Int).toNat (b223_ : Int).toNat), .int .i64 l224_.gNum, .int .i64 l224_.gAt, .bool l224_.gNear] [])], []⟩ _ (by kernel_rfl) (.cons h383 .nil) ?_
    refine Wc.seq ?_
    refine Wc.seqJ (fun st => ∃ (e225_ : Bool), st = ⟨[(0, (.v (.str d221_), [])), (1, (.v (.int .i64 b222_), [])), (4, (.ptr 4 0, [])), (7, (.ptr 7 0, [])), (8, (.v (.int .i64 b223_), [])), (148, (.v (.bool e225_), []))], [(4, .cells [.int .i64 0, .str (bs []), .int .i64 0, .int .i64 0, .bool false] []), (7, .cells [.int .i64 l224_.gKind, .str (d221_.extract (b222_ : Int).toNat (b223_ : Int).toNat), .int .i64 l224_.gNum, .int .i64 l224_.gAt, .bool l224_.gNear] [])], []⟩ ∧ pimpl_nextSign_J2 k b222_ d221_ l224_ b223_ e225_ = some r) ?_ ?_
    · rcases oif h with ⟨h386, h⟩ | ⟨h386, h⟩
      · refine Wc.region [{}, {}, {}, { re := some (.bool true) }] [] [0, 1, 4, 7, 8, 148] [4, 7] [] ⟨[(0, (.v (.str d221_), [])), (1, (.v (.int .i64 b222_), [])), (4, (.ptr 4 0, [])), (7, (.ptr 7 0, [])), (8, (.v (.int .i64 b223_), [])), (148, (.v (.bool true), []))], [(4, .cells [.int .i64 0, .str (bs []), .int .i64 0, .int .i64 0, .bool false] []), (7, .cells [.int .i64 l224_.gKind, .str (d221_.extract (b222_ : Int).toNat (b223_ : Int).toNat), .int .i64 l224_.gNum, .int .i64 l224_.gAt, .bool l224_.gNear] [])], []⟩ _ (by kernel_rfl) (.cons (congrArg AV.bool h386) .nil) ?_
        exact ⟨_, rfl, h⟩
      · rcases oif h with ⟨h387, h⟩ | ⟨h387, h⟩
        · refine Wc.region [{}, {}, {}, { re := some (.bool false) }, {}, {}, {}, { re := some (.bool true) }] [] [0, 1, 4, 7, 8, 148] [4, 7] [] ⟨[(0, (.v (.str d221_), [])), (1, (.v (.int .i64 b222_), [])), (4, (.ptr 4 0, [])), (7, (.ptr 7 0, [])), (8, (.v (.int .i64 b223_), [])), (148, (.v (.bool (decide (((d221_.extract (b222_ : Int).toNat (b223_ : Int).toNat).size : Int) > 20))), []))], [(4, .cells [.int .i64 0, .str (bs []), .int .i64 0, .int .i64 0, .bool false] []), (7, .cells [.int .i64 l224_.gKind, .str (d221_.extract (b222_ : Int).toNat (b223_ : Int).toNat), .int .i64 l224_.gNum, .int .i64 l224_.gAt, .bool l224_.gNear] [])], []⟩ _ (by kernel_rfl) (.cons (congrArg AV.bool h386) (.cons (congrArg AV.bool h387) .nil)) ?_
          exact ⟨_, rfl, h⟩
        · refine Wc.region [{}, {}, {}, { re := some (.bool false) }, {}, {}, {}, { re := some (.bool false) }] [] [0, 1, 4, 7, 8, 148] [4, 7] [] ⟨[(0, (.v (.str d221_), [])), (1, (.v (.int .i64 b222_), [])), (4, (.ptr 4 0, [])), (7, (.ptr 7 0, [])), (8, (.v (.int .i64 b223_), [])), (148, (.v (.bool false), []))], [(4, .cells [.int .i64 0, .str (bs []), .int .i64 0, .int .i64 0, .bool false] []), (7, .cells [.int .i64 l224_.gKind, .str (d221_.extract (b222_ : Int).toNat (b223_ : Int).toNat), .int .i64 l224_.gNum, .int .i64 l224_.gAt, .bool l224_.gNear] [])], []⟩ _ (by kernel_rfl) (.cons (congrArg AV.bool h386) (.cons (congrArg AV.bool h387) .nil)) ?_
          exact ⟨_, rfl, h⟩
    · rintro st ⟨e225_, rfl, h⟩
      rcases oif h with ⟨h384, h⟩ | ⟨h384, h⟩
      · refine Wc.condT h384 (by kernel_rfl) ?_
        refine Wc.seq ?_
        obtain ⟨h385, h⟩ := oguard h
        refine Wc.draw hmix [] [] [1, 4, 7] [4, 7] [] ⟨[(1, (.v (.int .i64 b222_), [])), (4, (.ptr 4 0, [])), (7, (.ptr 7 0, []))], [(4, .cells [.int .i64 0, .str (bs []), .int .i64 0, .int .i64 0, .bool false] []), (7, .cells [.int .i64 6, .str (d221_.extract (b222_ : Int).toNat ((wr.i64 (b222_ + 1)) : Int).toNat), .int .i64 l224_.gNum, .int .i64 l224_.gAt, .bool l224_.gNear] [])], []⟩ _ (by kernel_rfl) (fun X => by kernel_rfl) (.cons h385 .nil) ?_
        refine Wc.region [] [] [4, 7, 8] [4, 7] [] ⟨[(4, (.ptr 4 0, [])), (7, (.ptr 7 0, [])), (8, (.v (.int .i64 (wr.i64 (b222_ + 1))), []))], [(4, .cells [.int .i64 0, .str (bs []), .int .i64 0, .int .i64 0, .bool false] []), (7, .cells [.int .i64 6, .str (d221_.extract (b222_ : Int).toNat ((wr.i64 (b222_ + 1)) : Int).toNat), .int .i64 l224_.gNum, .int .i64 l224_.gAt, .bool l224_.gNear] [])], []⟩ _ (by kernel_rfl) .nil ?_
        refine Wc.seq ?_
        refine Wc.region [] [] [4, 5] [4] [] ⟨[(4, (.ptr 4 0, [])), (5, (.v (.int .i64 (wr.i64 (b222_ + 1))), []))], [(4, .cells [.int .i64 6, .str (d221_.extract (b222_ : Int).toNat ((wr.i64 (b222_ + 1)) : Int).toNat), .int .i64 l224_.gNum, .int .i64 l224_.gAt, .bool l224_.gNear] [])], []⟩ _ (by kernel_rfl) .nil ?_
        refine Wc.ret ?_
        obtain rfl := Option.some.inj h
        exact ⟨.inl rfl, by kernel_rfl, by kernel_rfl⟩
      · refine Wc.condF h384 (by kernel_rfl) ?_
        refine Wc.fix (st' := ⟨[(4, (.ptr 4 0, [])), (7, (.ptr 7 0, [])), (8, (.v (.int .i64 b223_), []))], [(4, .cells [.int .i64 0, .str (bs []), .int .i64 0, .int .i64 0, .bool false] []), (7, .cells [.int .i64 l224_.gKind, .str (d221_.extract (b222_ : Int).toNat (b223_ : Int).toNat), .int .i64 l224_.gNum, .int .i64 l224_.gAt, .bool l224_.gNear] [])], []⟩) [] [4, 7, 8] [4, 7] [] (by kernel_rfl) ?_
        refine Wc.skip ?_
        refine Wc.seq ?_
        refine Wc.region [] [] [4, 5] [4] [] ⟨[(4, (.ptr 4 0, [])), (5, (.v (.int .i64 b223_), []))], [(4, .cells [.int .i64 l224_.gKind, .str (d221_.extract (b222_ : Int).toNat (b223_ : Int).toNat), .int .i64 l224_.gNum, .int .i64 l224_.gAt, .bool l224_.gNear] [])], []⟩ _ (by kernel_rfl) .nil ?_
        refine Wc.ret ?_
        obtain rfl := Option.some.inj h
        exact ⟨.inl rfl, by kernel_rfl, by kernel_rfl⟩

def pimpl_run_on2_pimpl_SignsOf_1_L1 (k : Nat) (d248_ : ByteArray) : Nat → Int → Option (Out Int Int)
  | 0, _ => none
  | m + 1, b250_ =>
    if (decide (b250_ < (d248_.size : Int))) = true then
      if 0 ≤ b250_ ∧ (b250_).toNat < d248_.size then
        (pimpl_SignsOf_1 k (bt d248_ b250_)).bind fun e252_ =>
        if e252_ = true then
          pimpl_run_on2_pimpl_SignsOf_1_L1 k d248_ m (wr.i64 (b250_ + 1))
        else
          some (.done b250_)
      else none
    else
      some (.done b250_)
/-- impl.run -/
def pimpl_run_on2_pimpl_SignsOf_1 (k : Nat) (d248_ : ByteArray) (b249_ : Int) : Option Int :=
  (pimpl_run_on2_pimpl_SignsOf_1_L1 k d248_ k b249_).bind fun out1 => match out1 with
  | .ret r => some r
  | .done b251_ =>
    some b251_
theorem cimpl_run_on2_pimpl_SignsOf_1 {k : Nat} {d248_ : ByteArray} {b249_ : Int} {r : Int} (h : pimpl_run_on2_pimpl_SignsOf_1 k d248_ b249_ = some r) : FnO Tryd.prog 61 [.v (.str d248_) [], .v (.int .i64 b249_) [], .v (.func 62 []) []] (.v (.int .i64 r) []) [] := by
  refine FnO.of Tryd.func61 (rfl : Tryd.f61.body = some _) (Nat.le_of_ble_eq_true (by kernel_rfl)) (Nat.le_of_ble_eq_true (by kernel_rfl)) ?_
  intro w0 X0 Fin pv0 pb gt
  unfold pimpl_run_on2_pimpl_SignsOf_1 at h
  refine Wc.seq ?_
  refine Wc.region [] [] [0, 1, 2] [] [] ⟨[(0, (.v (.str d248_), [])), (1, (.v (.int .i64 b249_), [])), (2, (.v (.func 62 []), []))], [], []⟩ _ (by kernel_rfl) .nil ?_
  obtain ⟨out1, h426, h⟩ := obind h
  refine Wc.seqJ (fun st => ∃ (b251_ : Int), out1 = .done b251_ ∧ st = ⟨[(1, (.v (.int .i64 b251_), []))], [], []⟩) ?_ ?_
  · refine Wc.block ?_
    refine Wc.loop (fun m st => ∃ (b250_ : Int), st = ⟨[(0, (.v (.str d248_), [])), (1, (.v (.int .i64 b250_), [])), (2, (.v (.func 62 []), []))], [], []⟩ ∧ pimpl_run_on2_pimpl_SignsOf_1_L1 k d248_ m b250_ = some out1) ?_ k ⟨_, rfl, h426⟩
    rintro m st ⟨b250_, rfl, h426⟩
    cases m with
    | zero => exact (onone h426).elim
    | succ m =>
      refine Wc.seq ?_
      refine Wc.seq ?_
      rcases oif h426 with ⟨h427, h426⟩ | ⟨h427, h426⟩
      · obtain ⟨h428, h426⟩ := oguard h426
        obtain ⟨e252_, h429, h426⟩ := obind h426
        refine Wc.region [{}, {}, {}, {}, { re := some (.bool true) }, {}, {}, {}, {}, { r := some (.v (.bool e252_) []) }] [] [0, 1, 2, 17] [] [] ⟨[(0, (.v (.str d248_), [])), (1, (.v (.int .i64 b250_), [])), (2, (.v (.func 62 []), [])), (17, (.v (.bool e252_), []))], [], []⟩ _ (by kernel_rfl) (.cons (congrArg AV.bool h427) (.cons h428 (.cons (cimpl_SignsOf_1 h429) .nil))) ?_
        rcases oif h426 with ⟨h430, h426⟩ | ⟨h430, h426⟩
        · refine Wc.condT h430 (by kernel_rfl) ?_
          refine Wc.fix (st' := ⟨[(0, (.v (.str d248_), [])), (1, (.v (.int .i64 b250_), [])), (2, (.v (.func 62 []), []))], [], []⟩) [] [0, 1, 2] [] [] (by kernel_rfl) ?_
          refine Wc.skip ?_
          refine Wc.block ?_
          refine Wc.region [] [] [0, 1, 2] [] [] ⟨[(0, (.v (.str d248_), [])), (1, (.v (.int .i64 (wr.i64 (b250_ + 1))), [])), (2, (.v (.func 62 []), []))], [], []⟩ _ (by kernel_rfl) .nil ?_
          exact ⟨_, Nat.lt_succ_self _, _, rfl, h426⟩
        · refine Wc.condF h430 (by kernel_rfl) ?_
          refine Wc.fix (st' := ⟨[(1, (.v (.int .i64 b250_), []))], [], []⟩) [] [1] [] [] (by kernel_rfl) ?_
          refine Wc.exit ?_
          obtain rfl := Option.some.inj h426
          exact ⟨_, rfl, rfl⟩
      · refine Wc.region [{}, {}, {}, {}, { re := some (.bool false) }] [] [0, 1, 2, 17] [] [] ⟨[(0, (.v (.str d248_), [])), (1, (.v (.int .i64 b250_), [])), (2, (.v (.func 62 []), [])), (17, (.v (.bool false), []))], [], []⟩ _ (by kernel_rfl) (.cons (congrArg AV.bool h427) .nil) ?_
        refine Wc.condF rfl (by kernel_rfl) ?_
        refine Wc.fix (st' := ⟨[(1, (.v (.int .i64 b250_), []))], [], []⟩) [] [1] [] [] (by kernel_rfl) ?_
        refine Wc.exit ?_
        obtain rfl := Option.some.inj h426
        exact ⟨_, rfl, rfl⟩
  · rintro st ⟨b251_, rfl, rfl⟩
    refine Wc.seq ?_
    refine Wc.region [] [] [6] [] [] ⟨[(6, (.v (.int .i64 b251_), []))], [], []⟩ _ (by kernel_rfl) .nil ?_
    refine Wc.ret ?_
    obtain rfl := Option.some.inj h
    exact ⟨.inl rfl, by kernel_rfl, by kernel_rfl⟩

def pimpl_SignsOf_J2 (k : Nat) (bk_ : (List GSign) → Int → Option (Out ((List GSign) × Bool) (List GSign))) (g252_ : List GSign) (b253_ : Int) (d251_ : ByteArray) (e255_ : Bool) : Option (Out ((List GSign) × Bool) (List GSign)) :=
  if e255_ = true then
    bk_ g252_ (wr.i64 (b253_ + 1))
  else
    if ((bt d251_ b253_) == 37) = true then
      (pimpl_run_on2_pimpl_SignsOf_1 k d251_ b253_).bind fun b256_ =>
      bk_ g252_ b256_
    else
      (pimpl_nextSign k d251_ b253_).bind fun i257_ =>
      if (decide (i257_.2 < (d251_.size : Int))) = true then
        if 0 ≤ i257_.2 ∧ (i257_.2).toNat < d251_.size then
          if g252_.length + [GSign.mk i257_.1.gKind i257_.1.gText i257_.1.gNum i257_.1.gAt ((bt d251_ i257_.2) == 40)].length ≤ 1073741824 then
            bk_ (g252_ ++ [GSign.mk i257_.1.gKind i257_.1.gText i257_.1.gNum i257_.1.gAt ((bt d251_ i257_.2) == 40)]) i257_.2
          else none
        else none
      else
        if g252_.length + [GSign.mk i257_.1.gKind i257_.1.gText i257_.1.gNum i257_.1.gAt false].length ≤ 1073741824 then
          bk_ (g252_ ++ [GSign.mk i257_.1.gKind i257_.1.gText i257_.1.gNum i257_.1.gAt false]) i257_.2
        else none
def pimpl_SignsOf_L1 (k : Nat) (d251_ : ByteArray) : Nat → (List GSign) → Int → Option (Out ((List GSign) × Bool) (List GSign))
  | 0, _, _ => none
  | m + 1, g252_, b253_ =>
    if (decide (b253_ < (d251_.size : Int))) = true then
      if 0 ≤ b253_ ∧ (b253_).toNat < d251_.size then
        if ((bt d251_ b253_) == 32) = true then
          pimpl_SignsOf_J2 k (pimpl_SignsOf_L1 k d251_ m) g252_ b253_ d251_ ((bt d251_ b253_) == 32)
        else
          if ((bt d251_ b253_) == 9) = true then
            pimpl_SignsOf_J2 k (pimpl_SignsOf_L1 k d251_ m) g252_ b253_ d251_ ((bt d251_ b253_) == 9)
          else
            pimpl_SignsOf_J2 k (pimpl_SignsOf_L1 k d251_ m) g252_ b253_ d251_ ((bt d251_ b253_) == 10)
      else none
    else
      some (.done g252_)
/-- impl.SignsOf -/
def pimpl_SignsOf (k : Nat) (d251_ : ByteArray) : Option ((List GSign) × Bool) :=
  if (decide ((d251_.size : Int) > 3000)) = true then
    some ([], false)
  else
    (pimpl_SignsOf_L1 k d251_ k [] 0).bind fun out1 => match out1 with
    | .ret r => some r
    | .done g254_ =>
      some (g254_, true)
set_option maxHeartbeats 4000000 in
theorem cimpl_SignsOf {k : Nat} {d251_ : ByteArray} {r : (List GSign) × Bool} (h : pimpl_SignsOf k d251_ = some r) : FnO Tryd.prog 48 [.v (.str d251_) []] (.v (.tup [.sl (List.map GSign.c r.1), .bool r.2]) [(0, .app 54)]) [] := by
  refine FnO.of Tryd.func48 (rfl : Tryd.f48.body = some _) (Nat.le_of_ble_eq_true (by kernel_rfl)) (Nat.le_of_ble_eq_true (by kernel_rfl)) ?_
  intro w0 X0 Fin pv0 pb gt
  unfold pimpl_SignsOf at h
  refine Wc.seq ?_
  refine Wc.region [] [] [0] [] [] ⟨[(0, (.v (.str d251_), []))], [], []⟩ _ (by kernel_rfl) .nil ?_
  refine Wc.seq ?_
  refine Wc.seq ?_
  refine Wc.region [] [] [0, 10] [] [] ⟨[(0, (.v (.str d251_), [])), (10, (.v (.bool (decide ((d251_.size : Int) > 3000))), []))], [], []⟩ _ (by kernel_rfl) .nil ?_
  rcases oif h with ⟨h435, h⟩ | ⟨h435, h⟩
  · refine Wc.condT h435 (by kernel_rfl) ?_
    refine Wc.seq ?_
    refine Wc.region [] [] [2, 3] [] [] ⟨[(2, (.v (.sl (List.map GSign.c [])), [(0, .app 54)])), (3, (.v (.bool false), []))], [], []⟩ _ (by kernel_rfl) .nil ?_
    refine Wc.ret ?_
    obtain rfl := Option.some.inj h
    exact ⟨.inl rfl, by kernel_rfl, by kernel_rfl⟩
  · refine Wc.condF h435 (by kernel_rfl) ?_
    refine Wc.fix (st' := ⟨[(0, (.v (.str d251_), []))], [], []⟩) [] [0] [] [] (by kernel_rfl) ?_
    refine Wc.skip ?_
    refine Wc.seq ?_
    refine Wc.region [] [] [0, 4] [] [] ⟨[(0, (.v (.str d251_), [])), (4, (.v (.sl (List.map GSign.c [])), [(0, .app 54)]))], [], []⟩ _ (by kernel_rfl) .nil ?_
    refine Wc.seq ?_
    refine Wc.seq ?_
    refine Wc.region [] [] [0, 4, 5] [] [] ⟨[(0, (.v (.str d251_), [])), (4, (.v (.sl (List.map GSign.c [])), [(0, .app 54)])), (5, (.v (.int .i64 0), []))], [], []⟩ _ (by kernel_rfl) .nil ?_
    obtain ⟨out1, h436, h⟩ := obind h
    refine Wc.lastJ (fun st => ∃ (g254_ : List GSign), out1 = .done g254_ ∧ st = ⟨[(4, (.v (.sl (List.map GSign.c g254_)), [(0, .app 54)]))], [], []⟩) ?_ ?_
    · refine Wc.block ?_
      refine Wc.loop (fun m st => ∃ (g252_ : List GSign) (b253_ : Int), st = ⟨[(0, (.v (.str d251_), [])), (4, (.v (.sl (List.map GSign.c g252_)), [(0, .app 54)])), (5, (.v (.int .i64 b253_), []))], [], []⟩ ∧ pimpl_SignsOf_L1 k d251_ m g252_ b253_ = some out1) ?_ k ⟨_, _, rfl, h436⟩
      rintro m st ⟨g252_, b253_, rfl, h436⟩
      cases m with
      | zero => exact (onone h436).elim
      | succ m =>
        refine Wc.seq ?_
        refine Wc.seq ?_
        refine Wc.region [] [] [0, 4, 5, 14] [] [] ⟨[(0, (.v (.str d251_), [])), (4, (.v (.sl (List.map GSign.c g252_)), [(0, .app 54)])), (5, (.v (.int .i64 b253_), [])), (14, (.v (.bool (decide (b253_ < (d251_.size : Int)))), []))], [], []⟩ _ (by kernel_rfl) .nil ?_
        rcases oif h436 with ⟨h437, h436⟩ | ⟨h437, h436⟩
        · refine Wc.condT h437 (by kernel_rfl) ?_
          refine Wc.fix (st' := ⟨[(0, (.v (.str d251_), [])), (4, (.v (.sl (List.map GSign.c g252_)), [(0, .app 54)])), (5, (.v (.int .i64 b253_), []))], [], []⟩) [] [0, 4, 5] [] [] (by kernel_rfl) ?_
          refine Wc.skip ?_
          refine Wc.block ?_
          refine Wc.seq ?_
          refine Wc.seq ?_
          obtain ⟨h438, h436⟩ := oguard h436
          refine Wc.region [] [] [0, 4, 5, 17] [] [] ⟨[(0, (.v (.str d251_), [])), (4, (.v (.sl (List.map GSign.c g252_)), [(0, .app 54)])), (5, (.v (.int .i64 b253_), [])), (17, (.v (.int .u8 (bt d251_ b253_)), []))], [], []⟩ _ (by kernel_rfl) (.cons h438 .nil) ?_
          refine Wc.block ?_
          refine Wc.seqJ (fun st => ∃ (e255_ : Bool), st = ⟨[(0, (.v (.str d251_), [])), (4, (.v (.sl (List.map GSign.c g252_)), [(0, .app 54)])), (5, (.v (.int .i64 b253_), [])), (17, (.v (.int .u8 (bt d251_ b253_)), [])), (18, (.v (.bool e255_), []))], [], []⟩ ∧ pimpl_SignsOf_J2 k (pimpl_SignsOf_L1 k d251_ m) g252_ b253_ d251_ e255_ = some out1) ?_ ?_
          · refine Wc.seq ?_
            refine Wc.region [] [] [0, 4, 5, 17, 18] [] [] ⟨[(0, (.v (.str d251_), [])), (4, (.v (.sl (List.map GSign.c g252_)), [(0, .app 54)])), (5, (.v (.int .i64 b253_), [])), (17, (.v (.int .u8 (bt d251_ b253_)), [])), (18, (.v (.bool ((bt d251_ b253_) == 32)), []))], [], []⟩ _ (by kernel_rfl) .nil ?_
            rcases oif h436 with ⟨h447, h436⟩ | ⟨h447, h436⟩
            · refine Wc.condT h447 (by kernel_rfl) ?_
              refine Wc.skip ?_
              exact ⟨_, rfl, h436⟩
            · refine Wc.condF h447 (by kernel_rfl) ?_
              refine Wc.seq ?_
              refine Wc.region [] [] [0, 4, 5, 17, 18] [] [] ⟨[(0, (.v (.str d251_), [])), (4, (.v (.sl (List.map GSign.c g252_)), [(0, .app 54)])), (5, (.v (.int .i64 b253_), [])), (17, (.v (.int .u8 (bt d251_ b253_)), [])), (18, (.v (.bool ((bt d251_ b253_) == 9)), []))], [], []⟩ _ (by kernel_rfl) .nil ?_
              rcases oif h436 with ⟨h448, h436⟩ | ⟨h448, h436⟩
              · refine Wc.condT h448 (by kernel_rfl) ?_
                refine Wc.skip ?_
                exact ⟨_, rfl, h436⟩
              · refine Wc.condF h448 (by kernel_rfl) ?_
                refine Wc.region [] [] [0, 4, 5, 17, 18] [] [] ⟨[(0, (.v (.str d251_), [])), (4, (.v (.sl (List.map GSign.c g252_)), [(0, .app 54)])), (5, (.v (.int .i64 b253_), [])), (17, (.v (.int .u8 (bt d251_ b253_)), [])), (18, (.v (.bool ((bt d251_ b253_) == 10)), []))], [], []⟩ _ (by kernel_rfl) .nil ?_
                exact ⟨_, rfl, h436⟩
          · rintro st ⟨e255_, rfl, h436⟩
            rcases oif h436 with ⟨h439, h436⟩ | ⟨h439, h436⟩
            · refine Wc.condT h439 (by kernel_rfl) ?_
              refine Wc.seq ?_
              refine Wc.region [] [] [0, 4, 5] [] [] ⟨[(0, (.v (.str d251_), [])), (4, (.v (.sl (List.map GSign.c g252_)), [(0, .app 54)])), (5, (.v (.int .i64 (wr.i64 (b253_ + 1))), []))], [], []⟩ _ (by kernel_rfl) .nil ?_
              refine Wc.exit ?_
              exact ⟨_, Nat.lt_succ_self _, _, _, rfl, h436⟩
            · refine Wc.condF h439 (by kernel_rfl) ?_
              refine Wc.seq ?_
              refine Wc.region [] [] [0, 4, 5, 24] [] [] ⟨[(0, (.v (.str d251_), [])), (4, (.v (.sl (List.map GSign.c g252_)), [(0, .app 54)])), (5, (.v (.int .i64 b253_), [])), (24, (.v (.bool ((bt d251_ b253_) == 37)), []))], [], []⟩ _ (by kernel_rfl) .nil ?_
              rcases oif h436 with ⟨h440, h436⟩ | ⟨h440, h436⟩
              · refine Wc.condT h440 (by kernel_rfl) ?_
                refine Wc.seq ?_
                obtain ⟨b256_, h441, h436⟩ := obind h436
                refine Wc.region [{}, {}, { r := some (.v (.int .i64 b256_) []) }] [] [0, 4, 5] [] [] ⟨[(0, (.v (.str d251_), [])), (4, (.v (.sl (List.map GSign.c g252_)), [(0, .app 54)])), (5, (.v (.int .i64 b256_), []))], [], []⟩ _ (by kernel_rfl) (.cons (cimpl_run_on2_pimpl_SignsOf_1 h441) .nil) ?_
                refine Wc.exit ?_
                exact ⟨_, Nat.lt_succ_self _, _, _, rfl, h436⟩
              · refine Wc.condF h440 (by kernel_rfl) ?_
                refine Wc.fix (st' := ⟨[(0, (.v (.str d251_), [])), (4, (.v (.sl (List.map GSign.c g252_)), [(0, .app 54)])), (5, (.v (.int .i64 b253_), []))], [], []⟩) [] [0, 4, 5] [] [] (by kernel_rfl) ?_
                refine Wc.skip ?_
                refine Wc.seq ?_
                obtain ⟨i257_, h442, h436⟩ := obind h436
                refine Wc.region [{}, {}, { r := some (.v (.tup [.agg [.int .i64 i257_.1.gKind, .str i257_.1.gText, .int .i64 i257_.1.gNum, .int .i64 i257_.1.gAt, .bool i257_.1.gNear], .int .i64 i257_.2]) []) }] [] [0, 4, 6, 7] [6] [] ⟨[(0, (.v (.str d251_), [])), (4, (.v (.sl (List.map GSign.c g252_)), [(0, .app 54)])), (6, (.ptr 6 0, [])), (7, (.v (.int .i64 i257_.2), []))], [(6, .cells [.int .i64 i257_.1.gKind, .str i257_.1.gText, .int .i64 i257_.1.gNum, .int .i64 i257_.1.gAt, .bool i257_.1.gNear] [])], []⟩ _ (by kernel_rfl) (.cons (cimpl_nextSign h442) .nil) ?_
                refine Wc.seq ?_
                rcases oif h436 with ⟨h443, h436⟩ | ⟨h443, h436⟩
                · obtain ⟨h444, h436⟩ := oguard h436
                  refine Wc.region [{}, {}, {}, {}, { re := some (.bool true) }] [] [0, 4, 6, 7] [6] [] ⟨[(0, (.v (.str d251_), [])), (4, (.v (.sl (List.map GSign.c g252_)), [(0, .app 54)])), (6, (.ptr 6 0, [])), (7, (.v (.int .i64 i257_.2), []))], [(6, .cells [.int .i64 i257_.1.gKind, .str i257_.1.gText, .int .i64 i257_.1.gNum, .int .i64 i257_.1.gAt, .bool ((bt d251_ i257_.2) == 40)] [])], []⟩ _ (by kernel_rfl) (.cons (congrArg AV.bool h443) (.cons h444 .nil)) ?_
                  refine Wc.seq ?_
                  obtain ⟨h445, h436⟩ := oguard h436
                  refine Wc.region [{ tk := [4] }, {}, { c := some (List.map GSign.c [GSign.mk i257_.1.gKind i257_.1.gText i257_.1.gNum i257_.1.gAt ((bt d251_ i257_.2) == 40)]) }, { c := some (List.map GSign.c (g252_ ++ [GSign.mk i257_.1.gKind i257_.1.gText i257_.1.gNum i257_.1.gAt ((bt d251_ i257_.2) == 40)])), tk := [46] }, { tk := [49] }] [] [0, 4, 7] [] [] ⟨[(0, (.v (.str d251_), [])), (4, (.v (.sl (List.map GSign.c (g252_ ++ [GSign.mk i257_.1.gKind i257_.1.gText i257_.1.gNum i257_.1.gAt ((bt d251_ i257_.2) == 40)]))), [(0, .app 54)])), (7, (.v (.int .i64 i257_.2), []))], [], []⟩ _ (by kernel_rfl) (.cons (cl_cons (c := GSign.c) (x := GSign.mk i257_.1.gKind i257_.1.gText i257_.1.gNum i257_.1.gAt ((bt d251_ i257_.2) == 40)) (GSign.c_eq (GSign.mk i257_.1.gKind i257_.1.gText i257_.1.gNum i257_.1.gAt ((bt d251_ i257_.2) == 40))) (cl_nil GSign.c)) (.cons (app_re2 GSign.c g252_ [GSign.mk i257_.1.gKind i257_.1.gText i257_.1.gNum i257_.1.gAt ((bt d251_ i257_.2) == 40)]) (.cons (app_leaf (c := GSign.c) (ys := [GSign.mk i257_.1.gKind i257_.1.gText i257_.1.gNum i257_.1.gAt ((bt d251_ i257_.2) == 40)]) GSign.c_leaf) (.cons (app_obl2 (c := GSign.c) (xs := g252_) (ys := [GSign.mk i257_.1.gKind i257_.1.gText i257_.1.gNum i257_.1.gAt ((bt d251_ i257_.2) == 40)]) GSign.c_len h445) .nil)))) ?_
                  refine Wc.region [] [] [0, 4, 5] [] [] ⟨[(0, (.v (.str d251_), [])), (4, (.v (.sl (List.map GSign.c (g252_ ++ [GSign.mk i257_.1.gKind i257_.1.gText i257_.1.gNum i257_.1.gAt ((bt d251_ i257_.2) == 40)]))), [(0, .app 54)])), (5, (.v (.int .i64 i257_.2), []))], [], []⟩ _ (by kernel_rfl) .nil ?_
                  exact ⟨_, Nat.lt_succ_self _, _, _, rfl, h436⟩
                · refine Wc.region [{}, {}, {}, {}, { re := some (.bool false) }] [] [0, 4, 6, 7] [6] [] ⟨[(0, (.v (.str d251_), [])), (4, (.v (.sl (List.map GSign.c g252_)), [(0, .app 54)])), (6, (.ptr 6 0, [])), (7, (.v (.int .i64 i257_.2), []))], [(6, .cells [.int .i64 i257_.1.gKind, .str i257_.1.gText, .int .i64 i257_.1.gNum, .int .i64 i257_.1.gAt, .bool false] [])], []⟩ _ (by kernel_rfl) (.cons (congrArg AV.bool h443) .nil) ?_
                  refine Wc.seq ?_
                  obtain ⟨h446, h436⟩ := oguard h436
                  refine Wc.region [{ tk := [4] }, {}, { c := some (List.map GSign.c [GSign.mk i257_.1.gKind i257_.1.gText i257_.1.gNum i257_.1.gAt false]) }, { c := some (List.map GSign.c (g252_ ++ [GSign.mk i257_.1.gKind i257_.1.gText i257_.1.gNum i257_.1.gAt false])), tk := [46] }, { tk := [49] }] [] [0, 4, 7] [] [] ⟨[(0, (.v (.str d251_), [])), (4, (.v (.sl (List.map GSign.c (g252_ ++ [GSign.mk i257_.1.gKind i257_.1.gText i257_.1.gNum i257_.1.gAt false]))), [(0, .app 54)])), (7, (.v (.int .i64 i257_.2), []))], [], []⟩ _ (by kernel_rfl) (.cons (cl_cons (c := GSign.c) (x := GSign.mk i257_.1.gKind i257_.1.gText i257_.1.gNum i257_.1.gAt false) (GSign.c_eq (GSign.mk i257_.1.gKind i257_.1.gText i257_.1.gNum i257_.1.gAt false)) (cl_nil GSign.c)) (.cons (app_re2 GSign.c g252_ [GSign.mk i257_.1.gKind i257_.1.gText i257_.1.gNum i257_.1.gAt false]) (.cons (app_leaf (c := GSign.c) (ys := [GSign.mk i257_.1.gKind i257_.1.gText i257_.1.gNum i257_.1.gAt false]) GSign.c_leaf) (.cons (app_obl2 (c := GSign.c) (xs := g252_) (ys := [GSign.mk i257_.1.gKind i257_.1.gText i257_.1.gNum i257_.1.gAt false]) GSign.c_len h446) .nil)))) ?_
                  refine Wc.region [] [] [0, 4, 5] [] [] ⟨[(0, (.v (.str d251_), [])), (4, (.v (.sl (List.map GSign.c (g252_ ++ [GSign.mk i257_.1.gKind i257_.1.gText i257_.1.gNum i257_.1.gAt false]))), [(0, .app 54)])), (5, (.v (.int .i64 i257_.2), []))], [], []⟩ _ (by kernel_rfl) .nil ?_
                  exact ⟨_, Nat.lt_succ_self _, _, _, rfl, h436⟩
        · refine Wc.condF h437 (by kernel_rfl) ?_
          refine Wc.fix (st' := ⟨[(4, (.v (.sl (List.map GSign.c g252_)), [(0, .app 54)]))], [], []⟩) [] [4] [] [] (by kernel_rfl) ?_
          refine Wc.exit ?_
          obtain rfl := Option.some.inj h436
          exact ⟨_, rfl, rfl⟩
    · rintro st ⟨g254_, rfl, rfl⟩
      refine Wc.seq ?_
      refine Wc.region [{ tk := [4] }, { tk := [51] }] [] [2, 3] [] [] ⟨[(2, (.v (.sl (List.map GSign.c g254_)), [(0, .app 54)])), (3, (.v (.bool true), []))], [], []⟩ _ (by kernel_rfl) .nil ?_
      refine Wc.ret ?_
      obtain rfl := Option.some.inj h
      exact ⟨.inl rfl, by kernel_rfl, by kernel_rfl⟩

/-- impl.AtomText -/
def pimpl_AtomText (k : Nat) (d258_ : ByteArray) : Option ByteArray :=
  (pimpl_SignsOf k d258_).bind fun j259_ =>
  if j259_.2 = true then
    if ((j259_.1.length : Int) == 1) = true then
      (at' j259_.1 0).bind fun l260_ =>
      if (l260_.gKind == 1) = true then
        (at' j259_.1 0).bind fun l261_ =>
        if (sEq l261_.gText d258_) = true then
          some d258_
        else
          if sumOk (bs [39]) d258_ then
            if sumOk ((bs [39]) ++ d258_) (bs [39]) then
              some (((bs [39]) ++ d258_) ++ (bs [39]))
            else none
          else none
      else
        if sumOk (bs [39]) d258_ then
          if sumOk ((bs [39]) ++ d258_) (bs [39]) then
            some (((bs [39]) ++ d258_) ++ (bs [39]))
          else none
        else none
    else
      if sumOk (bs [39]) d258_ then
        if sumOk ((bs [39]) ++ d258_) (bs [39]) then
          some (((bs [39]) ++ d258_) ++ (bs [39]))
        else none
      else none
  else
    if sumOk (bs [39]) d258_ then
      if sumOk ((bs [39]) ++ d258_) (bs [39]) then
        some (((bs [39]) ++ d258_) ++ (bs [39]))
      else none
    else none
theorem cimpl_AtomText {k : Nat} {d258_ : ByteArray} {r : ByteArray} (h : pimpl_AtomText k d258_ = some r) : FnO Tryd.prog 37 [.v (.str d258_) []] (.v (.str r) []) [] := by
  refine FnO.of Tryd.func37 (rfl : Tryd.f37.body = some _) (Nat.le_of_ble_eq_true (by kernel_rfl)) (Nat.le_of_ble_eq_true (by kernel_rfl)) ?_
  intro w0 X0 Fin pv0 pb gt
  unfold pimpl_AtomText at h
  refine Wc.seq ?_
  refine Wc.region [] [] [0] [] [] ⟨[(0, (.v (.str d258_), []))], [], []⟩ _ (by kernel_rfl) .nil ?_
  refine Wc.seq ?_
  obtain ⟨j259_, h449, h⟩ := obind h
  refine Wc.region [{}, { r := some (.v (.tup [.sl (List.map GSign.c j259_.1), .bool j259_.2]) [(0, .app 54)]) }, { tk := [7] }, { tk := [5] }, {}, { tk := [8] }] [] [0, 3, 4] [] [] ⟨[(0, (.v (.str d258_), [])), (3, (.v (.sl (List.map GSign.c j259_.1)), [(0, .app 54)])), (4, (.v (.bool j259_.2), []))], [], []⟩ _ (by kernel_rfl) (.cons (cimpl_SignsOf h449) .nil) ?_
  refine Wc.seq ?_
  refine Wc.seq ?_
  rcases oif h with ⟨h450, h⟩ | ⟨h450, h⟩
  · rcases oif h with ⟨h451, h⟩ | ⟨h451, h⟩
    · obtain ⟨l260_, h452, h⟩ := obind h
      rcases oif h with ⟨h453, h⟩ | ⟨h453, h⟩
      · obtain ⟨l261_, h454, h⟩ := obind h
        refine Wc.region [{}, { re := some (.bool true) }, {}, { v := some (.int .i64 (j259_.1.length : Int)) }, {}, {}, { re := some (.bool true) }, {}, { v := some (.vptr [.int .i64 l260_.gKind, .str l260_.gText, .int .i64 l260_.gNum, .int .i64 l260_.gAt, .bool l260_.gNear]) }, {}, {}, {}, {}, { re := some (.bool true) }, { tk := [3] }, { v := some (.vptr [.int .i64 l261_.gKind, .str l261_.gText, .int .i64 l261_.gNum, .int .i64 l261_.gAt, .bool l261_.gNear]) }] [] [0, 30] [] [] ⟨[(0, (.v (.str d258_), [])), (30, (.v (.bool (sEq l261_.gText d258_)), []))], [], []⟩ _ (by kernel_rfl) (.cons (congrArg AV.bool h450) (.cons (len_obl GSign.c j259_.1) (.cons (congrArg AV.bool h451) (.cons (at_obl (c := GSign.c) (GSign.c_eq l260_) GSign.c_len h452) (.cons (len_ok 1 [.int .i64 l260_.gKind, .str l260_.gText, .int .i64 l260_.gNum, .int .i64 l260_.gAt, .bool l260_.gNear]) (.cons (congrArg AV.bool h453) (.cons (at_obl (c := GSign.c) (GSign.c_eq l261_) GSign.c_len h454) (.cons (len_ok 1 [.str l261_.gText, .int .i64 l261_.gNum, .int .i64 l261_.gAt, .bool l261_.gNear]) .nil)))))))) ?_
        rcases oif h with ⟨h455, h⟩ | ⟨h455, h⟩
        · refine Wc.condT h455 (by kernel_rfl) ?_
          refine Wc.seq ?_
          refine Wc.region [] [] [2] [] [] ⟨[(2, (.v (.str d258_), []))], [], []⟩ _ (by kernel_rfl) .nil ?_
          refine Wc.ret ?_
          obtain rfl := Option.some.inj h
          exact ⟨.inl rfl, by kernel_rfl, by kernel_rfl⟩
        · refine Wc.condF h455 (by kernel_rfl) ?_
          refine Wc.fix (st' := ⟨[(0, (.v (.str d258_), []))], [], []⟩) [] [0] [] [] (by kernel_rfl) ?_
          refine Wc.skip ?_
          refine Wc.seq ?_
          obtain ⟨h456, h⟩ := oguard h
          obtain ⟨h457, h⟩ := oguard h
          refine Wc.region [] [] [2] [] [] ⟨[(2, (.v (.str (((bs [39]) ++ d258_) ++ (bs [39]))), []))], [], []⟩ _ (by kernel_rfl) (.cons h456 (.cons h457 .nil)) ?_
          refine Wc.ret ?_
          obtain rfl := Option.some.inj h
          exact ⟨.inl rfl, by kernel_rfl, by kernel_rfl⟩
      · refine Wc.region [{}, { re := some (.bool true) }, {}, { v := some (.int .i64 (j259_.1.length : Int)) }, {}, {}, { re := some (.bool true) }, {}, { v := some (.vptr [.int .i64 l260_.gKind, .str l260_.gText, .int .i64 l260_.gNum, .int .i64 l260_.gAt, .bool l260_.gNear]) }, {}, {}, {}, {}, { re := some (.bool false) }] [] [0, 30] [] [] ⟨[(0, (.v (.str d258_), [])), (30, (.v (.bool false), []))], [], []⟩ _ (by kernel_rfl) (.cons (congrArg AV.bool h450) (.cons (len_obl GSign.c j259_.1) (.cons (congrArg AV.bool h451) (.cons (at_obl (c := GSign.c) (GSign.c_eq l260_) GSign.c_len h452) (.cons (len_ok 1 [.int .i64 l260_.gKind, .str l260_.gText, .int .i64 l260_.gNum, .int .i64 l260_.gAt, .bool l260_.gNear]) (.cons (congrArg AV.bool h453) .nil)))))) ?_
        refine Wc.condF rfl (by kernel_rfl) ?_
        refine Wc.fix (st' := ⟨[(0, (.v (.str d258_), []))], [], []⟩) [] [0] [] [] (by kernel_rfl) ?_
        refine Wc.skip ?_
        refine Wc.seq ?_
        obtain ⟨h458, h⟩ := oguard h
        obtain ⟨h459, h⟩ := oguard h
        refine Wc.region [] [] [2] [] [] ⟨[(2, (.v (.str (((bs [39]) ++ d258_) ++ (bs [39]))), []))], [], []⟩ _ (by kernel_rfl) (.cons h458 (.cons h459 .nil)) ?_
        refine Wc.ret ?_
        obtain rfl := Option.some.inj h
        exact ⟨.inl rfl, by kernel_rfl, by kernel_rfl⟩
    · refine Wc.region [{}, { re := some (.bool true) }, {}, { v := some (.int .i64 (j259_.1.length : Int)) }, {}, {}, { re := some (.bool false) }] [] [0, 30] [] [] ⟨[(0, (.v (.str d258_), [])), (30, (.v (.bool false), []))], [], []⟩ _ (by kernel_rfl) (.cons (congrArg AV.bool h450) (.cons (len_obl GSign.c j259_.1) (.cons (congrArg AV.bool h451) .nil))) ?_
      refine Wc.condF rfl (by kernel_rfl) ?_
      refine Wc.fix (st' := ⟨[(0, (.v (.str d258_), []))], [], []⟩) [] [0] [] [] (by kernel_rfl) ?_
      refine Wc.skip ?_
      refine Wc.seq ?_
      obtain ⟨h460, h⟩ := oguard h
      obtain ⟨h461, h⟩ := oguard h
      refine Wc.region [] [] [2] [] [] ⟨[(2, (.v (.str (((bs [39]) ++ d258_) ++ (bs [39]))), []))], [], []⟩ _ (by kernel_rfl) (.cons h460 (.cons h461 .nil)) ?_
      refine Wc.ret ?_
      obtain rfl := Option.some.inj h
      exact ⟨.inl rfl, by kernel_rfl, by kernel_rfl⟩
  · refine Wc.region [{}, { re := some (.bool false) }] [] [0, 30] [] [] ⟨[(0, (.v (.str d258_), [])), (30, (.v (.bool false), []))], [], []⟩ _ (by kernel_rfl) (.cons (congrArg AV.bool h450) .nil) ?_
    refine Wc.condF rfl (by kernel_rfl) ?_
    refine Wc.fix (st' := ⟨[(0, (.v (.str d258_), []))], [], []⟩) [] [0] [] [] (by kernel_rfl) ?_
    refine Wc.skip ?_
    refine Wc.seq ?_
    obtain ⟨h462, h⟩ := oguard h
    obtain ⟨h463, h⟩ := oguard h
    refine Wc.region [] [] [2] [] [] ⟨[(2, (.v (.str (((bs [39]) ++ d258_) ++ (bs [39]))), []))], [], []⟩ _ (by kernel_rfl) (.cons h462 (.cons h463 .nil)) ?_
    refine Wc.ret ?_
    obtain rfl := Option.some.inj h
    exact ⟨.inl rfl, by kernel_rfl, by kernel_rfl⟩

/-- impl.isStruct -/
def pimpl_isStruct (k : Nat) (c262_ : GTerm) (d263_ : ByteArray) (b264_ : Int) : Option Bool :=
  if (c262_.gKind == 4) = true then
    if (sEq c262_.gName d263_) = true then
      some ((c262_.gKids.length : Int) == b264_)
    else
      some false
  else
    some false
theorem cimpl_isStruct {k : Nat} {c262_ : GTerm} {d263_ : ByteArray} {b264_ : Int} {r : Bool} (h : pimpl_isStruct k c262_ d263_ b264_ = some r) : FnO Tryd.prog 49 [.v (.agg [.int .i64 c262_.gKind, .str c262_.gName, .int .i64 c262_.gNum, .sl (List.map GTerm.c c262_.gKids)]) [], .v (.str d263_) [], .v (.int .i64 b264_) []] (.v (.bool r) []) [] := by
  refine FnO.of Tryd.func49 (rfl : Tryd.f49.body = some _) (Nat.le_of_ble_eq_true (by kernel_rfl)) (Nat.le_of_ble_eq_true (by kernel_rfl)) ?_
  intro w0 X0 Fin pv0 pb gt
  unfold pimpl_isStruct at h
  refine Wc.seq ?_
  refine Wc.region [] [] [1, 2, 3] [3] [] ⟨[(1, (.v (.str d263_), [])), (2, (.v (.int .i64 b264_), [])), (3, (.ptr 3 0, []))], [(3, .cells [.int .i64 c262_.gKind, .str c262_.gName, .int .i64 c262_.gNum, .sl (List.map GTerm.c c262_.gKids)] [])], []⟩ _ (by kernel_rfl) .nil ?_
  refine Wc.seq ?_
  rcases oif h with ⟨h464, h⟩ | ⟨h464, h⟩
  · rcases oif h with ⟨h465, h⟩ | ⟨h465, h⟩
    · refine Wc.region [{}, {}, {}, { re := some (.bool true) }, {}, {}, {}, {}, {}, { re := some (.bool true) }, {}, {}, { v := some (.int .i64 (c262_.gKids.length : Int)) }] [] [6] [] [] ⟨[(6, (.v (.bool ((c262_.gKids.length : Int) == b264_)), []))], [], []⟩ _ (by kernel_rfl) (.cons (congrArg AV.bool h464) (.cons (congrArg AV.bool h465) (.cons (len_obl GTerm.c c262_.gKids) .nil))) ?_
      refine Wc.ret ?_
      obtain rfl := Option.some.inj h
      exact ⟨.inl rfl, by kernel_rfl, by kernel_rfl⟩
    · refine Wc.region [{}, {}, {}, { re := some (.bool true) }, {}, {}, {}, {}, {}, { re := some (.bool false) }] [] [6] [] [] ⟨[(6, (.v (.bool false), []))], [], []⟩ _ (by kernel_rfl) (.cons (congrArg AV.bool h464) (.cons (congrArg AV.bool h465) .nil)) ?_
      refine Wc.ret ?_
      obtain rfl := Option.some.inj h
      exact ⟨.inl rfl, by kernel_rfl, by kernel_rfl⟩
  · refine Wc.region [{}, {}, {}, { re := some (.bool false) }] [] [6] [] [] ⟨[(6, (.v (.bool false), []))], [], []⟩ _ (by kernel_rfl) (.cons (congrArg AV.bool h464) .nil) ?_
    refine Wc.ret ?_
    obtain rfl := Option.some.inj h
    exact ⟨.inl rfl, by kernel_rfl, by kernel_rfl⟩

/-- impl.isPair -/
def pimpl_isPair (k : Nat) (c265_ : GTerm) : Option Bool :=
  (pimpl_isStruct k c265_ (bs [46]) 2).bind fun e266_ =>
  some e266_
theorem cimpl_isPair {k : Nat} {c265_ : GTerm} {r : Bool} (h : pimpl_isPair k c265_ = some r) : FnO Tryd.prog 38 [.v (.agg [.int .i64 c265_.gKind, .str c265_.gName, .int .i64 c265_.gNum, .sl (List.map GTerm.c c265_.gKids)]) []] (.v (.bool r) []) [] := by
  refine FnO.of Tryd.func38 (rfl : Tryd.f38.body = some _) (Nat.le_of_ble_eq_true (by kernel_rfl)) (Nat.le_of_ble_eq_true (by kernel_rfl)) ?_
  intro w0 X0 Fin pv0 pb gt
  unfold pimpl_isPair at h
  refine Wc.seq ?_
  refine Wc.region [] [] [1] [1] [] ⟨[(1, (.ptr 1 0, []))], [(1, .cells [.int .i64 c265_.gKind, .str c265_.gName, .int .i64 c265_.gNum, .sl (List.map GTerm.c c265_.gKids)] [])], []⟩ _ (by kernel_rfl) .nil ?_
  refine Wc.seq ?_
  obtain ⟨e266_, h466, h⟩ := obind h
  refine Wc.region [{}, { r := some (.v (.bool e266_) []) }] [] [2] [] [] ⟨[(2, (.v (.bool e266_), []))], [], []⟩ _ (by kernel_rfl) (.cons (cimpl_isStruct h466) .nil) ?_
  refine Wc.ret ?_
  obtain rfl := Option.some.inj h
  exact ⟨.inl rfl, by kernel_rfl, by kernel_rfl⟩

/-- impl.isInfix -/
def pimpl_isInfix (k : Nat) (c267_ : GTerm) : Option Bool :=
  (pimpl_InfixOf k c267_.gName).bind fun f268_ =>
  if f268_.2 = true then
    if (c267_.gKind == 4) = true then
      some ((c267_.gKids.length : Int) == 2)
    else
      some false
  else
    some false
theorem cimpl_isInfix {k : Nat} {c267_ : GTerm} {r : Bool} (h : pimpl_isInfix k c267_ = some r) : FnO Tryd.prog 39 [.v (.agg [.int .i64 c267_.gKind, .str c267_.gName, .int .i64 c267_.gNum, .sl (List.map GTerm.c c267_.gKids)]) []] (.v (.bool r) []) [] := by
  refine FnO.of Tryd.func39 (rfl : Tryd.f39.body = some _) (Nat.le_of_ble_eq_true (by kernel_rfl)) (Nat.le_of_ble_eq_true (by kernel_rfl)) ?_
  intro w0 X0 Fin pv0 pb gt
  unfold pimpl_isInfix at h
  refine Wc.seq ?_
  refine Wc.region [] [] [1] [1] [] ⟨[(1, (.ptr 1 0, []))], [(1, .cells [.int .i64 c267_.gKind, .str c267_.gName, .int .i64 c267_.gNum, .sl (List.map GTerm.c c267_.gKids)] [])], []⟩ _ (by kernel_rfl) .nil ?_
  refine Wc.seq ?_
  obtain ⟨f268_, h467, h⟩ := obind h
  refine Wc.region [{}, {}, { r := some (.v (.tup [.agg [.str f268_.1.gName, .int .i64 f268_.1.gPrio, .int .i64 f268_.1.gLeft, .int .i64 f268_.1.gRight], .bool f268_.2]) []) }] [] [1, 4] [1] [] ⟨[(1, (.ptr 1 0, [])), (4, (.v (.bool f268_.2), []))], [(1, .cells [.int .i64 c267_.gKind, .str c267_.gName, .int .i64 c267_.gNum, .sl (List.map GTerm.c c267_.gKids)] [])], []⟩ _ (by kernel_rfl) (.cons (cimpl_InfixOf h467) .nil) ?_
  refine Wc.seq ?_
  rcases oif h with ⟨h468, h⟩ | ⟨h468, h⟩
  · rcases oif h with ⟨h469, h⟩ | ⟨h469, h⟩
    · refine Wc.region [{}, { re := some (.bool true) }, {}, {}, {}, {}, { re := some (.bool true) }, {}, {}, { v := some (.int .i64 (c267_.gKids.length : Int)) }] [] [2] [] [] ⟨[(2, (.v (.bool ((c267_.gKids.length : Int) == 2)), []))], [], []⟩ _ (by kernel_rfl) (.cons (congrArg AV.bool h468) (.cons (congrArg AV.bool h469) (.cons (len_obl GTerm.c c267_.gKids) .nil))) ?_
      refine Wc.ret ?_
      obtain rfl := Option.some.inj h
      exact ⟨.inl rfl, by kernel_rfl, by kernel_rfl⟩
    · refine Wc.region [{}, { re := some (.bool true) }, {}, {}, {}, {}, { re := some (.bool false) }] [] [2] [] [] ⟨[(2, (.v (.bool false), []))], [], []⟩ _ (by kernel_rfl) (.cons (congrArg AV.bool h468) (.cons (congrArg AV.bool h469) .nil)) ?_
      refine Wc.ret ?_
      obtain rfl := Option.some.inj h
      exact ⟨.inl rfl, by kernel_rfl, by kernel_rfl⟩
  · refine Wc.region [{}, { re := some (.bool false) }] [] [2] [] [] ⟨[(2, (.v (.bool false), []))], [], []⟩ _ (by kernel_rfl) (.cons (congrArg AV.bool h468) .nil) ?_
    refine Wc.ret ?_
    obtain rfl := Option.some.inj h
    exact ⟨.inl rfl, by kernel_rfl, by kernel_rfl⟩

def pstrings_Join (k : Nat) (l : List ByteArray) (s : ByteArray) : Option ByteArray :=
  if l.length ≤ 1073741824 ∧ (joinB l s).size ≤ 1073741824 then some (joinB l s) else none
theorem cstrings_Join {k : Nat} {l : List ByteArray} {s r : ByteArray} (h : pstrings_Join k l s = some r) : FnO Tryd.prog 40 [.v (.sl (List.map cS l)) [], .v (.str s) []] (.v (.str r) []) [] := join_O Tryd.strings_Join_none Tryd.strings_Join h

/-- impl.signText -/
def pimpl_signText (k : Nat) (d269_ : ByteArray) : Option ByteArray :=
  if (sEq d269_ (bs [44])) = true then
    some d269_
  else
    (pimpl_AtomText k d269_).bind fun d270_ =>
    some d270_
theorem cimpl_signText {k : Nat} {d269_ : ByteArray} {r : ByteArray} (h : pimpl_signText k d269_ = some r) : FnO Tryd.prog 27 [.v (.str d269_) []] (.v (.str r) []) [] := by
  refine FnO.of Tryd.func27 (rfl : Tryd.f27.body = some _) (Nat.le_of_ble_eq_true (by kernel_rfl)) (Nat.le_of_ble_eq_true (by kernel_rfl)) ?_
  intro w0 X0 Fin pv0 pb gt
  unfold pimpl_signText at h
  refine Wc.seq ?_
  refine Wc.region [] [] [0] [] [] ⟨[(0, (.v (.str d269_), []))], [], []⟩ _ (by kernel_rfl) .nil ?_
  refine Wc.seq ?_
  refine Wc.seq ?_
  refine Wc.region [] [] [0, 4] [] [] ⟨[(0, (.v (.str d269_), [])), (4, (.v (.bool (sEq d269_ (bs [44]))), []))], [], []⟩ _ (by kernel_rfl) .nil ?_
  rcases oif h with ⟨h470, h⟩ | ⟨h470, h⟩
  · refine Wc.condT h470 (by kernel_rfl) ?_
    refine Wc.seq ?_
    refine Wc.region [] [] [2] [] [] ⟨[(2, (.v (.str d269_), []))], [], []⟩ _ (by kernel_rfl) .nil ?_
    refine Wc.ret ?_
    obtain rfl := Option.some.inj h
    exact ⟨.inl rfl, by kernel_rfl, by kernel_rfl⟩
  · refine Wc.condF h470 (by kernel_rfl) ?_
    refine Wc.fix (st' := ⟨[(0, (.v (.str d269_), []))], [], []⟩) [] [0] [] [] (by kernel_rfl) ?_
    refine Wc.skip ?_
    refine Wc.seq ?_
    obtain ⟨d270_, h471, h⟩ := obind h
    refine Wc.region [{}, { r := some (.v (.str d270_) []) }] [] [2] [] [] ⟨[(2, (.v (.str d270_), []))], [], []⟩ _ (by kernel_rfl) (.cons (cimpl_AtomText h471) .nil) ?_
    refine Wc.ret ?_
    obtain rfl := Option.some.inj h
    exact ⟨.inl rfl, by kernel_rfl, by kernel_rfl⟩

def pimpl_writeWith_on1_pimpl_write_on2_pimpl_write_1_L2 (k : Nat) (rimpl_write : GTerm → Option ByteArray) (rimpl_write_1 : GTerm → Option ByteArray) : Nat → ByteArray → GTerm → Option (Out ByteArray (ByteArray × GTerm))
  | 0, _, _ => none
  | m + 1, d293_, c294_ =>
    (pimpl_isPair k c294_).bind fun e297_ =>
    if e297_ = true then
      (at' c294_.gKids 0).bind fun c298_ =>
      (rimpl_write c298_).bind fun d299_ =>
      if sumOk (bs [44]) d299_ then
        if sumOk d293_ ((bs [44]) ++ d299_) then
          (at' c294_.gKids 1).bind fun c300_ =>
          pimpl_writeWith_on1_pimpl_write_on2_pimpl_write_1_L2 k rimpl_write rimpl_write_1 m (d293_ ++ ((bs [44]) ++ d299_)) c300_
        else none
      else none
    else
      some (.done (d293_, c294_))
def pimpl_writeWith_on1_pimpl_write_on2_pimpl_write_1_L3 (k : Nat) (rimpl_write : GTerm → Option ByteArray) (rimpl_write_1 : GTerm → Option ByteArray) (c282_ : GTerm) : Nat → (List ByteArray) → Int → Option (Out ByteArray (List ByteArray))
  | 0, _, _ => none
  | m + 1, n305_, b306_ =>
    if (decide (b306_ < (c282_.gKids.length : Int))) = true then
      (at' c282_.gKids b306_).bind fun c308_ =>
      (rimpl_write c308_).bind fun d309_ =>
      if n305_.length + [d309_].length ≤ 1073741824 then
        pimpl_writeWith_on1_pimpl_write_on2_pimpl_write_1_L3 k rimpl_write rimpl_write_1 c282_ m (n305_ ++ [d309_]) (wr.i64 (b306_ + 1))
      else none
    else
      some (.done n305_)
def pimpl_writeWith_on1_pimpl_write_on2_pimpl_write_1_J1 (k : Nat) (rimpl_write : GTerm → Option ByteArray) (rimpl_write_1 : GTerm → Option ByteArray) (c282_ : GTerm) (e286_ : Bool) : Option ByteArray :=
  if e286_ = true then
    (pimpl_AtomText k c282_.gName).bind fun d287_ =>
    if sumOk (bs [40]) d287_ then
      if sumOk ((bs [40]) ++ d287_) (bs [41]) then
        some (((bs [40]) ++ d287_) ++ (bs [41]))
      else none
    else none
  else
    if (c282_.gKind == 2) = true then
      (pimpl_AtomText k c282_.gName).bind fun d288_ =>
      some d288_
    else
      (pimpl_isPair k c282_).bind fun e289_ =>
      if e289_ = true then
        (at' c282_.gKids 0).bind fun c290_ =>
        (rimpl_write c290_).bind fun d291_ =>
        if sumOk (bs [91]) d291_ then
          (at' c282_.gKids 1).bind fun c292_ =>
          (pimpl_writeWith_on1_pimpl_write_on2_pimpl_write_1_L2 k rimpl_write rimpl_write_1 k ((bs [91]) ++ d291_) c292_).bind fun out2 => match out2 with
          | .ret r => some r
          | .done (d295_, c296_) =>
            (pimpl_isAtom k c296_ (bs [91, 93])).bind fun e301_ =>
            if (!e301_) = true then
              (rimpl_write c296_).bind fun d302_ =>
              if sumOk (bs [124]) d302_ then
                if sumOk d295_ ((bs [124]) ++ d302_) then
                  if sumOk (d295_ ++ ((bs [124]) ++ d302_)) (bs [93]) then
                    some ((d295_ ++ ((bs [124]) ++ d302_)) ++ (bs [93]))
                  else none
                else none
              else none
            else
              if sumOk d295_ (bs [93]) then
                some (d295_ ++ (bs [93]))
              else none
        else none
      else
        (pimpl_isInfix k c282_).bind fun e303_ =>
        if e303_ = true then
          (rimpl_write_1 c282_).bind fun d304_ =>
          some d304_
        else
          (pimpl_writeWith_on1_pimpl_write_on2_pimpl_write_1_L3 k rimpl_write rimpl_write_1 c282_ k [] 0).bind fun out3 => match out3 with
          | .ret r => some r
          | .done n307_ =>
            (pimpl_AtomText k c282_.gName).bind fun d310_ =>
            if sumOk d310_ (bs [40]) then
              (pstrings_Join k n307_ (bs [44])).bind fun d311_ =>
              if sumOk (d310_ ++ (bs [40])) d311_ then
                if sumOk ((d310_ ++ (bs [40])) ++ d311_) (bs [41]) then
                  some (((d310_ ++ (bs [40])) ++ d311_) ++ (bs [41]))
                else none
              else none
            else none
/-- impl.writeWith -/
def pimpl_writeWith_on1_pimpl_write_on2_pimpl_write_1 (k : Nat) (rimpl_write : GTerm → Option ByteArray) (rimpl_write_1 : GTerm → Option ByteArray) (c282_ : GTerm) : Option ByteArray :=
  if (c282_.gKind == 1) = true then
    (pimpl_Decimal k c282_.gNum).bind fun d283_ =>
    if sumOk (bs [95]) d283_ then
      some ((bs [95]) ++ d283_)
    else none
  else
    if (c282_.gKind == 3) = true then
      (pimpl_Decimal k c282_.gNum).bind fun d284_ =>
      some d284_
    else
      (pimpl_isAtom k c282_ (bs [91, 93])).bind fun e285_ =>
      if e285_ = true then
        some (bs [91, 93])
      else
        if (c282_.gKind == 2) = true then
          (pimpl_isOp k c282_.gName).bind fun e312_ =>
          pimpl_writeWith_on1_pimpl_write_on2_pimpl_write_1_J1 k rimpl_write rimpl_write_1 c282_ e312_
        else
          pimpl_writeWith_on1_pimpl_write_on2_pimpl_write_1_J1 k rimpl_write rimpl_write_1 c282_ false
set_option maxHeartbeats 4000000 in
theorem cimpl_writeWith_on1_pimpl_write_on2_pimpl_write_1 {k : Nat} {rimpl_write : GTerm → Option ByteArray} {rimpl_write_1 : GTerm → Option ByteArray} (ih_pimpl_write : ∀ {y0 : GTerm} {r : ByteArray}, rimpl_write y0 = some r → FnO Tryd.prog 14 [.v (.agg [.int .i64 y0.gKind, .str y0.gName, .int .i64 y0.gNum, .sl (List.map GTerm.c y0.gKids)]) []] (.v (.str r) []) []) (ih_pimpl_write_1 : ∀ {y0 : GTerm} {r : ByteArray}, rimpl_write_1 y0 = some r → FnO Tryd.prog 26 [.v (.agg [.int .i64 y0.gKind, .str y0.gName, .int .i64 y0.gNum, .sl (List.map GTerm.c y0.gKids)]) []] (.v (.str r) []) []) {c282_ : GTerm} {r : ByteArray} (h : pimpl_writeWith_on1_pimpl_write_on2_pimpl_write_1 k rimpl_write rimpl_write_1 c282_ = some r) : FnO Tryd.prog 25 [.v (.agg [.int .i64 c282_.gKind, .str c282_.gName, .int .i64 c282_.gNum, .sl (List.map GTerm.c c282_.gKids)]) [], .v (.func 14 []) [], .v (.func 26 []) []] (.v (.str r) []) [] := by
  refine FnO.of Tryd.func25 (rfl : Tryd.f25.body = some _) (Nat.le_of_ble_eq_true (by kernel_rfl)) (Nat.le_of_ble_eq_true (by kernel_rfl)) ?_
  intro w0 X0 Fin pv0 pb gt
  unfold pimpl_writeWith_on1_pimpl_write_on2_pimpl_write_1 at h
  refine Wc.seq ?_
  refine Wc.region [] [] [1, 2, 3] [3] [] ⟨[(1, (.v (.func 14 []), [])), (2, (.v (.func 26 []), [])), (3, (.ptr 3 0, []))], [(3, .cells [.int .i64 c282_.gKind, .str c282_.gName, .int .i64 c282_.gNum, .sl (List.map GTerm.c c282_.gKids)] [])], []⟩ _ (by kernel_rfl) .nil ?_
  refine Wc.seq ?_
  refine Wc.block ?_
  refine Wc.seq ?_
  refine Wc.region [] [] [1, 2, 3, 12] [3] [] ⟨[(1, (.v (.func 14 []), [])), (2, (.v (.func 26 []), [])), (3, (.ptr 3 0, [])), (12, (.v (.bool (c282_.gKind == 1)), []))], [(3, .cells [.int .i64 c282_.gKind, .str c282_.gName, .int .i64 c282_.gNum, .sl (List.map GTerm.c c282_.gKids)] [])], []⟩ _ (by kernel_rfl) .nil ?_
  rcases oif h with ⟨h488, h⟩ | ⟨h488, h⟩
  · refine Wc.condT h488 (by kernel_rfl) ?_
    refine Wc.seq ?_
    obtain ⟨d283_, h489, h⟩ := obind h
    obtain ⟨h490, h⟩ := oguard h
    refine Wc.region [{}, {}, { r := some (.v (.str d283_) []) }] [] [6] [] [] ⟨[(6, (.v (.str ((bs [95]) ++ d283_)), []))], [], []⟩ _ (by kernel_rfl) (.cons (cimpl_Decimal h489) (.cons h490 .nil)) ?_
    refine Wc.ret ?_
    obtain rfl := Option.some.inj h
    exact ⟨.inl rfl, by kernel_rfl, by kernel_rfl⟩
  · refine Wc.condF h488 (by kernel_rfl) ?_
    refine Wc.seq ?_
    refine Wc.region [] [] [1, 2, 3, 20] [3] [] ⟨[(1, (.v (.func 14 []), [])), (2, (.v (.func 26 []), [])), (3, (.ptr 3 0, [])), (20, (.v (.bool (c282_.gKind == 3)), []))], [(3, .cells [.int .i64 c282_.gKind, .str c282_.gName, .int .i64 c282_.gNum, .sl (List.map GTerm.c c282_.gKids)] [])], []⟩ _ (by kernel_rfl) .nil ?_
    rcases oif h with ⟨h491, h⟩ | ⟨h491, h⟩
    · refine Wc.condT h491 (by kernel_rfl) ?_
      refine Wc.seq ?_
      obtain ⟨d284_, h492, h⟩ := obind h
      refine Wc.region [{}, {}, { r := some (.v (.str d284_) []) }] [] [6] [] [] ⟨[(6, (.v (.str d284_), []))], [], []⟩ _ (by kernel_rfl) (.cons (cimpl_Decimal h492) .nil) ?_
      refine Wc.ret ?_
      obtain rfl := Option.some.inj h
      exact ⟨.inl rfl, by kernel_rfl, by kernel_rfl⟩
    · refine Wc.condF h491 (by kernel_rfl) ?_
      refine Wc.seq ?_
      obtain ⟨e285_, h493, h⟩ := obind h
      refine Wc.region [{}, { r := some (.v (.bool e285_) []) }] [] [1, 2, 3, 27] [3] [] ⟨[(1, (.v (.func 14 []), [])), (2, (.v (.func 26 []), [])), (3, (.ptr 3 0, [])), (27, (.v (.bool e285_), []))], [(3, .cells [.int .i64 c282_.gKind, .str c282_.gName, .int .i64 c282_.gNum, .sl (List.map GTerm.c c282_.gKids)] [])], []⟩ _ (by kernel_rfl) (.cons (cimpl_isAtom h493) .nil) ?_
      rcases oif h with ⟨h494, h⟩ | ⟨h494, h⟩
      · refine Wc.condT h494 (by kernel_rfl) ?_
        refine Wc.seq ?_
        refine Wc.region [] [] [6] [] [] ⟨[(6, (.v (.str (bs [91, 93])), []))], [], []⟩ _ (by kernel_rfl) .nil ?_
        refine Wc.ret ?_
        obtain rfl := Option.some.inj h
        exact ⟨.inl rfl, by kernel_rfl, by kernel_rfl⟩
      · refine Wc.condF h494 (by kernel_rfl) ?_
        refine Wc.seqJ (fun st => ∃ (e286_ : Bool), st = ⟨[(1, (.v (.func 14 []), [])), (2, (.v (.func 26 []), [])), (3, (.ptr 3 0, [])), (30, (.v (.bool e286_), []))], [(3, .cells [.int .i64 c282_.gKind, .str c282_.gName, .int .i64 c282_.gNum, .sl (List.map GTerm.c c282_.gKids)] [])], []⟩ ∧ pimpl_writeWith_on1_pimpl_write_on2_pimpl_write_1_J1 k rimpl_write rimpl_write_1 c282_ e286_ = some r) ?_ ?_
        · rcases oif h with ⟨h535, h⟩ | ⟨h535, h⟩
          · obtain ⟨e312_, h536, h⟩ := obind h
            refine Wc.region [{}, {}, {}, { re := some (.bool true) }, {}, {}, { r := some (.v (.bool e312_) []) }] [] [1, 2, 3, 30] [3] [] ⟨[(1, (.v (.func 14 []), [])), (2, (.v (.func 26 []), [])), (3, (.ptr 3 0, [])), (30, (.v (.bool e312_), []))], [(3, .cells [.int .i64 c282_.gKind, .str c282_.gName, .int .i64 c282_.gNum, .sl (List.map GTerm.c c282_.gKids)] [])], []⟩ _ (by kernel_rfl) (.cons (congrArg AV.bool h535) (.cons (cimpl_isOp h536) .nil)) ?_
            exact ⟨_, rfl, h⟩
          · refine Wc.region [{}, {}, {}, { re := some (.bool false) }] [] [1, 2, 3, 30] [3] [] ⟨[(1, (.v (.func 14 []), [])), (2, (.v (.func 26 []), [])), (3, (.ptr 3 0, [])), (30, (.v (.bool false), []))], [(3, .cells [.int .i64 c282_.gKind, .str c282_.gName, .int .i64 c282_.gNum, .sl (List.map GTerm.c c282_.gKids)] [])], []⟩ _ (by kernel_rfl) (.cons (congrArg AV.bool h535) .nil) ?_
            exact ⟨_, rfl, h⟩
        · rintro st ⟨e286_, rfl, h⟩
          rcases oif h with ⟨h495, h⟩ | ⟨h495, h⟩
          · refine Wc.condT h495 (by kernel_rfl) ?_
            refine Wc.seq ?_
            obtain ⟨d287_, h496, h⟩ := obind h
            obtain ⟨h497, h⟩ := oguard h
            obtain ⟨h498, h⟩ := oguard h
            refine Wc.region [{}, {}, { r := some (.v (.str d287_) []) }] [] [6] [] [] ⟨[(6, (.v (.str (((bs [40]) ++ d287_) ++ (bs [41]))), []))], [], []⟩ _ (by kernel_rfl) (.cons (cimpl_AtomText h496) (.cons h497 (.cons h498 .nil))) ?_
            refine Wc.ret ?_
            obtain rfl := Option.some.inj h
            exact ⟨.inl rfl, by kernel_rfl, by kernel_rfl⟩
          · refine Wc.condF h495 (by kernel_rfl) ?_
            refine Wc.seq ?_
            refine Wc.region [] [] [1, 2, 3, 44] [3] [] ⟨[(1, (.v (.func 14 []), [])), (2, (.v (.func 26 []), [])), (3, (.ptr 3 0, [])), (44, (.v (.bool (c282_.gKind == 2)), []))], [(3, .cells [.int .i64 c282_.gKind, .str c282_.gName, .int .i64 c282_.gNum, .sl (List.map GTerm.c c282_.gKids)] [])], []⟩ _ (by kernel_rfl) .nil ?_
            rcases oif h with ⟨h499, h⟩ | ⟨h499, h⟩
            · refine Wc.condT h499 (by kernel_rfl) ?_
              refine Wc.seq ?_
              obtain ⟨d288_, h500, h⟩ := obind h
              refine Wc.region [{}, {}, { r := some (.v (.str d288_) []) }] [] [6] [] [] ⟨[(6, (.v (.str d288_), []))], [], []⟩ _ (by kernel_rfl) (.cons (cimpl_AtomText h500) .nil) ?_
              refine Wc.ret ?_
              obtain rfl := Option.some.inj h
              exact ⟨.inl rfl, by kernel_rfl, by kernel_rfl⟩
            · refine Wc.condF h499 (by kernel_rfl) ?_
              refine Wc.seq ?_
              obtain ⟨e289_, h501, h⟩ := obind h
              refine Wc.region [{}, { r := some (.v (.bool e289_) []) }] [] [1, 2, 3, 51] [3] [] ⟨[(1, (.v (.func 14 []), [])), (2, (.v (.func 26 []), [])), (3, (.ptr 3 0, [])), (51, (.v (.bool e289_), []))], [(3, .cells [.int .i64 c282_.gKind, .str c282_.gName, .int .i64 c282_.gNum, .sl (List.map GTerm.c c282_.gKids)] [])], []⟩ _ (by kernel_rfl) (.cons (cimpl_isPair h501) .nil) ?_
              rcases oif h with ⟨h502, h⟩ | ⟨h502, h⟩
              · refine Wc.condT h502 (by kernel_rfl) ?_
                refine Wc.seq ?_
                obtain ⟨c290_, h503, h⟩ := obind h
                obtain ⟨d291_, h504, h⟩ := obind h
                obtain ⟨h505, h⟩ := oguard h
                refine Wc.region [{}, {}, {}, { v := some (.vptr [.int .i64 c290_.gKind, .str c290_.gName, .int .i64 c290_.gNum, .sl (List.map GTerm.c c290_.gKids)]) }, {}, { r := some (.v (.str d291_) []) }] [] [1, 3, 7] [3] [] ⟨[(1, (.v (.func 14 []), [])), (3, (.ptr 3 0, [])), (7, (.v (.str ((bs [91]) ++ d291_)), []))], [(3, .cells [.int .i64 c282_.gKind, .str c282_.gName, .int .i64 c282_.gNum, .sl (List.map GTerm.c c282_.gKids)] [])], []⟩ _ (by kernel_rfl) (.cons (at_obl (c := GTerm.c) (GTerm.c_eq c290_) GTerm.c_len h503) (.cons (len_ok 4 [.int .i64 c290_.gKind, .str c290_.gName, .int .i64 c290_.gNum, .sl (List.map GTerm.c c290_.gKids)]) (.cons (ih_pimpl_write h504) (.cons h505 .nil)))) ?_
                refine Wc.seq ?_
                obtain ⟨c292_, h506, h⟩ := obind h
                refine Wc.region [{}, {}, { v := some (.vptr [.int .i64 c292_.gKind, .str c292_.gName, .int .i64 c292_.gNum, .sl (List.map GTerm.c c292_.gKids)]) }] [] [1, 7, 8] [8] [] ⟨[(1, (.v (.func 14 []), [])), (7, (.v (.str ((bs [91]) ++ d291_)), [])), (8, (.ptr 8 0, []))], [(8, .cells [.int .i64 c292_.gKind, .str c292_.gName, .int .i64 c292_.gNum, .sl (List.map GTerm.c c292_.gKids)] [])], []⟩ _ (by kernel_rfl) (.cons (at_obl (c := GTerm.c) (GTerm.c_eq c292_) GTerm.c_len h506) (.cons (len_ok 4 [.int .i64 c292_.gKind, .str c292_.gName, .int .i64 c292_.gNum, .sl (List.map GTerm.c c292_.gKids)]) .nil)) ?_
                obtain ⟨out2, h507, h⟩ := obind h
                refine Wc.seqJ (fun st => ∃ (d295_ : ByteArray) (c296_ : GTerm), out2 = .done (d295_, c296_) ∧ st = ⟨[(1, (.v (.func 14 []), [])), (7, (.v (.str d295_), [])), (8, (.ptr 8 0, []))], [(8, .cells [.int .i64 c296_.gKind, .str c296_.gName, .int .i64 c296_.gNum, .sl (List.map GTerm.c c296_.gKids)] [])], []⟩) ?_ ?_
                · refine Wc.block ?_
                  refine Wc.loop (fun m st => ∃ (d293_ : ByteArray) (c294_ : GTerm), st = ⟨[(1, (.v (.func 14 []), [])), (7, (.v (.str d293_), [])), (8, (.ptr 8 0, []))], [(8, .cells [.int .i64 c294_.gKind, .str c294_.gName, .int .i64 c294_.gNum, .sl (List.map GTerm.c c294_.gKids)] [])], []⟩ ∧ pimpl_writeWith_on1_pimpl_write_on2_pimpl_write_1_L2 k rimpl_write rimpl_write_1 m d293_ c294_ = some out2) ?_ k ⟨_, _, rfl, h507⟩
                  rintro m st ⟨d293_, c294_, rfl, h507⟩
                  cases m with
                  | zero => exact (onone h507).elim
                  | succ m =>
                    refine Wc.seq ?_
                    refine Wc.seq ?_
                    obtain ⟨e297_, h508, h507⟩ := obind h507
                    refine Wc.region [{}, { r := some (.v (.bool e297_) []) }] [] [1, 7, 8, 66] [8] [] ⟨[(1, (.v (.func 14 []), [])), (7, (.v (.str d293_), [])), (8, (.ptr 8 0, [])), (66, (.v (.bool e297_), []))], [(8, .cells [.int .i64 c294_.gKind, .str c294_.gName, .int .i64 c294_.gNum, .sl (List.map GTerm.c c294_.gKids)] [])], []⟩ _ (by kernel_rfl) (.cons (cimpl_isPair h508) .nil) ?_
                    rcases oif h507 with ⟨h509, h507⟩ | ⟨h509, h507⟩
                    · refine Wc.condT h509 (by kernel_rfl) ?_
                      refine Wc.fix (st' := ⟨[(1, (.v (.func 14 []), [])), (7, (.v (.str d293_), [])), (8, (.ptr 8 0, []))], [(8, .cells [.int .i64 c294_.gKind, .str c294_.gName, .int .i64 c294_.gNum, .sl (List.map GTerm.c c294_.gKids)] [])], []⟩) [] [1, 7, 8] [8] [] (by kernel_rfl) ?_
                      refine Wc.skip ?_
                      refine Wc.seq ?_
                      refine Wc.block ?_
                      obtain ⟨c298_, h510, h507⟩ := obind h507
                      obtain ⟨d299_, h511, h507⟩ := obind h507
                      obtain ⟨h512, h507⟩ := oguard h507
                      obtain ⟨h513, h507⟩ := oguard h507
                      refine Wc.region [{}, {}, {}, {}, { v := some (.vptr [.int .i64 c298_.gKind, .str c298_.gName, .int .i64 c298_.gNum, .sl (List.map GTerm.c c298_.gKids)]) }, {}, { r := some (.v (.str d299_) []) }] [] [1, 7, 8] [8] [] ⟨[(1, (.v (.func 14 []), [])), (7, (.v (.str (d293_ ++ ((bs [44]) ++ d299_))), [])), (8, (.ptr 8 0, []))], [(8, .cells [.int .i64 c294_.gKind, .str c294_.gName, .int .i64 c294_.gNum, .sl (List.map GTerm.c c294_.gKids)] [])], []⟩ _ (by kernel_rfl) (.cons (at_obl (c := GTerm.c) (GTerm.c_eq c298_) GTerm.c_len h510) (.cons (len_ok 4 [.int .i64 c298_.gKind, .str c298_.gName, .int .i64 c298_.gNum, .sl (List.map GTerm.c c298_.gKids)]) (.cons (ih_pimpl_write h511) (.cons h512 (.cons h513 .nil))))) ?_
                      obtain ⟨c300_, h514, h507⟩ := obind h507
                      refine Wc.region [{}, {}, { v := some (.vptr [.int .i64 c300_.gKind, .str c300_.gName, .int .i64 c300_.gNum, .sl (List.map GTerm.c c300_.gKids)]) }] [] [1, 7, 8] [8] [] ⟨[(1, (.v (.func 14 []), [])), (7, (.v (.str (d293_ ++ ((bs [44]) ++ d299_))), [])), (8, (.ptr 8 0, []))], [(8, .cells [.int .i64 c300_.gKind, .str c300_.gName, .int .i64 c300_.gNum, .sl (List.map GTerm.c c300_.gKids)] [])], []⟩ _ (by kernel_rfl) (.cons (at_obl (c := GTerm.c) (GTerm.c_eq c300_) GTerm.c_len h514) (.cons (len_ok 4 [.int .i64 c300_.gKind, .str c300_.gName, .int .i64 c300_.gNum, .sl (List.map GTerm.c c300_.gKids)]) .nil)) ?_
                      exact ⟨_, Nat.lt_succ_self _, _, _, rfl, h507⟩
                    · refine Wc.condF h509 (by kernel_rfl) ?_
                      refine Wc.fix (st' := ⟨[(1, (.v (.func 14 []), [])), (7, (.v (.str d293_), [])), (8, (.ptr 8 0, []))], [(8, .cells [.int .i64 c294_.gKind, .str c294_.gName, .int .i64 c294_.gNum, .sl (List.map GTerm.c c294_.gKids)] [])], []⟩) [] [1, 7, 8] [8] [] (by kernel_rfl) ?_
                      refine Wc.exit ?_
                      obtain rfl := Option.some.inj h507
                      exact ⟨_, _, rfl, rfl⟩
                · rintro st ⟨d295_, c296_, rfl, rfl⟩
                  refine Wc.seq ?_
                  refine Wc.seq ?_
                  obtain ⟨e301_, h515, h⟩ := obind h
                  refine Wc.region [{}, { r := some (.v (.bool e301_) []) }] [] [1, 7, 8, 82] [8] [] ⟨[(1, (.v (.func 14 []), [])), (7, (.v (.str d295_), [])), (8, (.ptr 8 0, [])), (82, (.v (.bool (!e301_)), []))], [(8, .cells [.int .i64 c296_.gKind, .str c296_.gName, .int .i64 c296_.gNum, .sl (List.map GTerm.c c296_.gKids)] [])], []⟩ _ (by kernel_rfl) (.cons (cimpl_isAtom h515) .nil) ?_
                  rcases oif h with ⟨h516, h⟩ | ⟨h516, h⟩
                  · refine Wc.condT h516 (by kernel_rfl) ?_
                    obtain ⟨d302_, h517, h⟩ := obind h
                    obtain ⟨h518, h⟩ := oguard h
                    obtain ⟨h519, h⟩ := oguard h
                    refine Wc.region [{}, {}, {}, { r := some (.v (.str d302_) []) }] [] [7] [] [] ⟨[(7, (.v (.str (d295_ ++ ((bs [124]) ++ d302_))), []))], [], []⟩ _ (by kernel_rfl) (.cons (ih_pimpl_write h517) (.cons h518 (.cons h519 .nil))) ?_
                    refine Wc.seq ?_
                    obtain ⟨h520, h⟩ := oguard h
                    refine Wc.region [] [] [6] [] [] ⟨[(6, (.v (.str ((d295_ ++ ((bs [124]) ++ d302_)) ++ (bs [93]))), []))], [], []⟩ _ (by kernel_rfl) (.cons h520 .nil) ?_
                    refine Wc.ret ?_
                    obtain rfl := Option.some.inj h
                    exact ⟨.inl rfl, by kernel_rfl, by kernel_rfl⟩
                  · refine Wc.condF h516 (by kernel_rfl) ?_
                    refine Wc.fix (st' := ⟨[(7, (.v (.str d295_), []))], [], []⟩) [] [7] [] [] (by kernel_rfl) ?_
                    refine Wc.skip ?_
                    refine Wc.seq ?_
                    obtain ⟨h521, h⟩ := oguard h
                    refine Wc.region [] [] [6] [] [] ⟨[(6, (.v (.str (d295_ ++ (bs [93]))), []))], [], []⟩ _ (by kernel_rfl) (.cons h521 .nil) ?_
                    refine Wc.ret ?_
                    obtain rfl := Option.some.inj h
                    exact ⟨.inl rfl, by kernel_rfl, by kernel_rfl⟩
              · refine Wc.condF h502 (by kernel_rfl) ?_
                refine Wc.seq ?_
                obtain ⟨e303_, h522, h⟩ := obind h
                refine Wc.region [{}, { r := some (.v (.bool e303_) []) }] [] [1, 2, 3, 91] [3] [] ⟨[(1, (.v (.func 14 []), [])), (2, (.v (.func 26 []), [])), (3, (.ptr 3 0, [])), (91, (.v (.bool e303_), []))], [(3, .cells [.int .i64 c282_.gKind, .str c282_.gName, .int .i64 c282_.gNum, .sl (List.map GTerm.c c282_.gKids)] [])], []⟩ _ (by kernel_rfl) (.cons (cimpl_isInfix h522) .nil) ?_
                rcases oif h with ⟨h523, h⟩ | ⟨h523, h⟩
                · refine Wc.condT h523 (by kernel_rfl) ?_
                  refine Wc.seq ?_
                  obtain ⟨d304_, h524, h⟩ := obind h
                  refine Wc.region [{}, {}, { r := some (.v (.str d304_) []) }] [] [6] [] [] ⟨[(6, (.v (.str d304_), []))], [], []⟩ _ (by kernel_rfl) (.cons (ih_pimpl_write_1 h524) .nil) ?_
                  refine Wc.ret ?_
                  obtain rfl := Option.some.inj h
                  exact ⟨.inl rfl, by kernel_rfl, by kernel_rfl⟩
                · refine Wc.condF h523 (by kernel_rfl) ?_
                  refine Wc.fix (st' := ⟨[(1, (.v (.func 14 []), [])), (3, (.ptr 3 0, []))], [(3, .cells [.int .i64 c282_.gKind, .str c282_.gName, .int .i64 c282_.gNum, .sl (List.map GTerm.c c282_.gKids)] [])], []⟩) [] [1, 3] [3] [] (by kernel_rfl) ?_
                  refine Wc.skip ?_
                  refine Wc.seq ?_
                  refine Wc.region [] [] [1, 3, 9] [3] [] ⟨[(1, (.v (.func 14 []), [])), (3, (.ptr 3 0, [])), (9, (.v (.sl (List.map cS [])), [(0, .app 9)]))], [(3, .cells [.int .i64 c282_.gKind, .str c282_.gName, .int .i64 c282_.gNum, .sl (List.map GTerm.c c282_.gKids)] [])], []⟩ _ (by kernel_rfl) .nil ?_
                  refine Wc.seq ?_
                  refine Wc.seq ?_
                  refine Wc.region [{}, {}, { v := some (.int .i64 (c282_.gKids.length : Int)) }] [] [1, 3, 9, 98, 99, 100] [3] [] ⟨[(1, (.v (.func 14 []), [])), (3, (.ptr 3 0, [])), (9, (.v (.sl (List.map cS [])), [(0, .app 9)])), (98, (.v (.sl (List.map GTerm.c c282_.gKids)), [])), (99, (.v (.int .i64 (c282_.gKids.length : Int)), [])), (100, (.v (.int .i64 0), []))], [(3, .cells [.int .i64 c282_.gKind, .str c282_.gName, .int .i64 c282_.gNum, .sl (List.map GTerm.c c282_.gKids)] [])], []⟩ _ (by kernel_rfl) (.cons (len_obl GTerm.c c282_.gKids) .nil) ?_
                  obtain ⟨out3, h525, h⟩ := obind h
                  refine Wc.lastJ (fun st => ∃ (n307_ : List ByteArray), out3 = .done n307_ ∧ st = ⟨[(3, (.ptr 3 0, [])), (9, (.v (.sl (List.map cS n307_)), [(0, .app 9)]))], [(3, .cells [.int .i64 c282_.gKind, .str c282_.gName, .int .i64 c282_.gNum, .sl (List.map GTerm.c c282_.gKids)] [])], []⟩) ?_ ?_
                  · refine Wc.block ?_
                    refine Wc.loop (fun m st => ∃ (n305_ : List ByteArray) (b306_ : Int), st = ⟨[(1, (.v (.func 14 []), [])), (3, (.ptr 3 0, [])), (9, (.v (.sl (List.map cS n305_)), [(0, .app 9)])), (98, (.v (.sl (List.map GTerm.c c282_.gKids)), [])), (99, (.v (.int .i64 (c282_.gKids.length : Int)), [])), (100, (.v (.int .i64 b306_), []))], [(3, .cells [.int .i64 c282_.gKind, .str c282_.gName, .int .i64 c282_.gNum, .sl (List.map GTerm.c c282_.gKids)] [])], []⟩ ∧ pimpl_writeWith_on1_pimpl_write_on2_pimpl_write_1_L3 k rimpl_write rimpl_write_1 c282_ m n305_ b306_ = some out3) ?_ k ⟨_, _, rfl, h525⟩
                    rintro m st ⟨n305_, b306_, rfl, h525⟩
                    cases m with
                    | zero => exact (onone h525).elim
                    | succ m =>
                      refine Wc.seq ?_
                      refine Wc.region [] [] [1, 3, 9, 98, 99, 100, 101] [3] [] ⟨[(1, (.v (.func 14 []), [])), (3, (.ptr 3 0, [])), (9, (.v (.sl (List.map cS n305_)), [(0, .app 9)])), (98, (.v (.sl (List.map GTerm.c c282_.gKids)), [])), (99, (.v (.int .i64 (c282_.gKids.length : Int)), [])), (100, (.v (.int .i64 b306_), [])), (101, (.v (.bool (decide (b306_ < (c282_.gKids.length : Int)))), []))], [(3, .cells [.int .i64 c282_.gKind, .str c282_.gName, .int .i64 c282_.gNum, .sl (List.map GTerm.c c282_.gKids)] [])], []⟩ _ (by kernel_rfl) .nil ?_
                      refine Wc.seq ?_
                      rcases oif h525 with ⟨h526, h525⟩ | ⟨h526, h525⟩
                      · refine Wc.condT h526 (by kernel_rfl) ?_
                        refine Wc.fix (st' := ⟨[(1, (.v (.func 14 []), [])), (3, (.ptr 3 0, [])), (9, (.v (.sl (List.map cS n305_)), [(0, .app 9)])), (98, (.v (.sl (List.map GTerm.c c282_.gKids)), [])), (99, (.v (.int .i64 (c282_.gKids.length : Int)), [])), (100, (.v (.int .i64 b306_), []))], [(3, .cells [.int .i64 c282_.gKind, .str c282_.gName, .int .i64 c282_.gNum, .sl (List.map GTerm.c c282_.gKids)] [])], []⟩) [] [1, 3, 9, 98, 99, 100] [3] [] (by kernel_rfl) ?_
                        refine Wc.skip ?_
                        refine Wc.seq ?_
                        refine Wc.block ?_
                        refine Wc.seq ?_
                        obtain ⟨c308_, h527, h525⟩ := obind h525
                        refine Wc.region [{ v := some (.vptr [.int .i64 c308_.gKind, .str c308_.gName, .int .i64 c308_.gNum, .sl (List.map GTerm.c c308_.gKids)]) }] [] [1, 3, 9, 11, 98, 99, 100] [3, 11] [] ⟨[(1, (.v (.func 14 []), [])), (3, (.ptr 3 0, [])), (9, (.v (.sl (List.map cS n305_)), [(0, .app 9)])), (11, (.ptr 11 0, [])), (98, (.v (.sl (List.map GTerm.c c282_.gKids)), [])), (99, (.v (.int .i64 (c282_.gKids.length : Int)), [])), (100, (.v (.int .i64 b306_), []))], [(3, .cells [.int .i64 c282_.gKind, .str c282_.gName, .int .i64 c282_.gNum, .sl (List.map GTerm.c c282_.gKids)] []), (11, .cells [.int .i64 c308_.gKind, .str c308_.gName, .int .i64 c308_.gNum, .sl (List.map GTerm.c c308_.gKids)] [])], []⟩ _ (by kernel_rfl) (.cons (at_obl (c := GTerm.c) (GTerm.c_eq c308_) GTerm.c_len h527) (.cons (len_ok 4 [.int .i64 c308_.gKind, .str c308_.gName, .int .i64 c308_.gNum, .sl (List.map GTerm.c c308_.gKids)]) .nil)) ?_
                        obtain ⟨d309_, h528, h525⟩ := obind h525
                        obtain ⟨h529, h525⟩ := oguard h525
                        refine Wc.region [{ tk := [9] }, {}, {}, { r := some (.v (.str d309_) []) }, { c := some (List.map cS [d309_]) }, { c := some (List.map cS (n305_ ++ [d309_])), tk := [104] }, { tk := [109] }] [] [1, 3, 9, 98, 99, 100] [3] [] ⟨[(1, (.v (.func 14 []), [])), (3, (.ptr 3 0, [])), (9, (.v (.sl (List.map cS (n305_ ++ [d309_]))), [(0, .app 9)])), (98, (.v (.sl (List.map GTerm.c c282_.gKids)), [])), (99, (.v (.int .i64 (c282_.gKids.length : Int)), [])), (100, (.v (.int .i64 b306_), []))], [(3, .cells [.int .i64 c282_.gKind, .str c282_.gName, .int .i64 c282_.gNum, .sl (List.map GTerm.c c282_.gKids)] [])], []⟩ _ (by kernel_rfl) (.cons (ih_pimpl_write h528) (.cons (cl_cons (c := cS) (x := d309_) rfl (cl_nil cS)) (.cons (app_re2 cS n305_ [d309_]) (.cons (app_leaf (c := cS) (ys := [d309_]) cS_leaf) (.cons (app_obl2 (c := cS) (xs := n305_) (ys := [d309_]) cS_len h529) .nil))))) ?_
                        refine Wc.region [] [] [1, 3, 9, 98, 99, 100] [3] [] ⟨[(1, (.v (.func 14 []), [])), (3, (.ptr 3 0, [])), (9, (.v (.sl (List.map cS (n305_ ++ [d309_]))), [(0, .app 9)])), (98, (.v (.sl (List.map GTerm.c c282_.gKids)), [])), (99, (.v (.int .i64 (c282_.gKids.length : Int)), [])), (100, (.v (.int .i64 (wr.i64 (b306_ + 1))), []))], [(3, .cells [.int .i64 c282_.gKind, .str c282_.gName, .int .i64 c282_.gNum, .sl (List.map GTerm.c c282_.gKids)] [])], []⟩ _ (by kernel_rfl) .nil ?_
                        exact ⟨_, Nat.lt_succ_self _, _, _, rfl, h525⟩
                      · refine Wc.condF h526 (by kernel_rfl) ?_
                        refine Wc.fix (st' := ⟨[(3, (.ptr 3 0, [])), (9, (.v (.sl (List.map cS n305_)), [(0, .app 9)]))], [(3, .cells [.int .i64 c282_.gKind, .str c282_.gName, .int .i64 c282_.gNum, .sl (List.map GTerm.c c282_.gKids)] [])], []⟩) [] [3, 9] [3] [] (by kernel_rfl) ?_
                        refine Wc.exit ?_
                        obtain rfl := Option.some.inj h525
                        exact ⟨_, rfl, rfl⟩
                  · rintro st ⟨n307_, rfl, rfl⟩
                    refine Wc.seq ?_
                    obtain ⟨d310_, h530, h⟩ := obind h
                    obtain ⟨h531, h⟩ := oguard h
                    obtain ⟨d311_, h532, h⟩ := obind h
                    obtain ⟨h533, h⟩ := oguard h
                    obtain ⟨h534, h⟩ := oguard h
                    refine Wc.region [{}, {}, { r := some (.v (.str d310_) []) }, {}, { tk := [9] }, { r := some (.v (.str d311_) []) }] [] [6] [] [] ⟨[(6, (.v (.str (((d310_ ++ (bs [40])) ++ d311_) ++ (bs [41]))), []))], [], []⟩ _ (by kernel_rfl) (.cons (cimpl_AtomText h530) (.cons h531 (.cons (cstrings_Join h532) (.cons h533 (.cons h534 .nil))))) ?_
                    refine Wc.ret ?_
                    obtain rfl := Option.some.inj h
                    exact ⟨.inl rfl, by kernel_rfl, by kernel_rfl⟩

mutual
/-- impl.write -/
def pimpl_write : Nat → GTerm → Option ByteArray
  | 0, _ => none
  | k + 1, c281_ =>
    (pimpl_writeWith_on1_pimpl_write_on2_pimpl_write_1 k (pimpl_write k) (pimpl_write_1 k) c281_).bind fun d313_ =>
    some d313_
/-- impl.write$1 -/
def pimpl_write_1 : Nat → GTerm → Option ByteArray
  | 0, _ => none
  | k + 1, c314_ =>
    (at' c314_.gKids 0).bind fun c315_ =>
    (pimpl_write k c315_).bind fun d316_ =>
    if sumOk (bs [40]) d316_ then
      if sumOk ((bs [40]) ++ d316_) (bs [32]) then
        (pimpl_signText k c314_.gName).bind fun d317_ =>
        if sumOk (((bs [40]) ++ d316_) ++ (bs [32])) d317_ then
          if sumOk ((((bs [40]) ++ d316_) ++ (bs [32])) ++ d317_) (bs [32]) then
            (at' c314_.gKids 1).bind fun c318_ =>
            (pimpl_write k c318_).bind fun d319_ =>
            if sumOk (((((bs [40]) ++ d316_) ++ (bs [32])) ++ d317_) ++ (bs [32])) d319_ then
              if sumOk ((((((bs [40]) ++ d316_) ++ (bs [32])) ++ d317_) ++ (bs [32])) ++ d319_) (bs [41]) then
                some (((((((bs [40]) ++ d316_) ++ (bs [32])) ++ d317_) ++ (bs [32])) ++ d319_) ++ (bs [41]))
              else none
            else none
          else none
        else none
      else none
    else none
end
theorem all_pimpl_write : ∀ k : Nat, (∀ {c281_ : GTerm} {r : ByteArray}, pimpl_write k c281_ = some r → FnO Tryd.prog 14 [.v (.agg [.int .i64 c281_.gKind, .str c281_.gName, .int .i64 c281_.gNum, .sl (List.map GTerm.c c281_.gKids)]) []] (.v (.str r) []) []) ∧
    (∀ {c314_ : GTerm} {r : ByteArray}, pimpl_write_1 k c314_ = some r → FnO Tryd.prog 26 [.v (.agg [.int .i64 c314_.gKind, .str c314_.gName, .int .i64 c314_.gNum, .sl (List.map GTerm.c c314_.gKids)]) []] (.v (.str r) []) []) := by
  intro k
  induction k with
  | zero =>
    refine ⟨?_, ?_⟩
    · intro c281_ r h
      exact (onone (by rw [pimpl_write] at h; exact h)).elim
    · intro c314_ r h
      exact (onone (by rw [pimpl_write_1] at h; exact h)).elim
  | succ k ih =>
    obtain ⟨ih_pimpl_write, ih_pimpl_write_1⟩ := ih
    refine ⟨?_, ?_⟩
    · intro c281_ r h
      rw [pimpl_write] at h
      refine FnO.of Tryd.func14 (rfl : Tryd.f14.body = some _) (Nat.le_of_ble_eq_true (by kernel_rfl)) (Nat.le_of_ble_eq_true (by kernel_rfl)) ?_
      intro w0 X0 Fin pv0 pb gt
      refine Wc.seq ?_
      refine Wc.region [] [] [1] [1] [] ⟨[(1, (.ptr 1 0, []))], [(1, .cells [.int .i64 c281_.gKind, .str c281_.gName, .int .i64 c281_.gNum, .sl (List.map GTerm.c c281_.gKids)] [])], []⟩ _ (by kernel_rfl) .nil ?_
      refine Wc.seq ?_
      obtain ⟨d313_, h537, h⟩ := obind h
      refine Wc.region [{}, { r := some (.v (.str d313_) []) }] [] [2] [] [] ⟨[(2, (.v (.str d313_), []))], [], []⟩ _ (by kernel_rfl) (.cons (cimpl_writeWith_on1_pimpl_write_on2_pimpl_write_1 (fun h => ih_pimpl_write h) (fun h => ih_pimpl_write_1 h) h537) .nil) ?_
      refine Wc.ret ?_
      obtain rfl := Option.some.inj h
      exact ⟨.inl rfl, by kernel_rfl, by kernel_rfl⟩
    · intro c314_ r h
      rw [pimpl_write_1] at h
      refine FnO.of Tryd.func26 (rfl : Tryd.f26.body = some _) (Nat.le_of_ble_eq_true (by kernel_rfl)) (Nat.le_of_ble_eq_true (by kernel_rfl)) ?_
      intro w0 X0 Fin pv0 pb gt
      refine Wc.seq ?_
      refine Wc.region [] [] [1] [1] [] ⟨[(1, (.ptr 1 0, []))], [(1, .cells [.int .i64 c314_.gKind, .str c314_.gName, .int .i64 c314_.gNum, .sl (List.map GTerm.c c314_.gKids)] [])], []⟩ _ (by kernel_rfl) .nil ?_
      refine Wc.seq ?_
      obtain ⟨c315_, h538, h⟩ := obind h
      obtain ⟨d316_, h539, h⟩ := obind h
      obtain ⟨h540, h⟩ := oguard h
      obtain ⟨h541, h⟩ := oguard h
      obtain ⟨d317_, h542, h⟩ := obind h
      obtain ⟨h543, h⟩ := oguard h
      obtain ⟨h544, h⟩ := oguard h
      obtain ⟨c318_, h545, h⟩ := obind h
      obtain ⟨d319_, h546, h⟩ := obind h
      obtain ⟨h547, h⟩ := oguard h
      obtain ⟨h548, h⟩ := oguard h
      refine Wc.draw hmix [{}, {}, { v := some (.vptr [.int .i64 c315_.gKind, .str c315_.gName, .int .i64 c315_.gNum, .sl (List.map GTerm.c c315_.gKids)]) }, {}, { r := some (.v (.str d316_) []) }, {}, {}, {}, {}, { r := some (.v (.str d317_) []) }, {}, {}, {}, {}, { v := some (.vptr [.int .i64 c318_.gKind, .str c318_.gName, .int .i64 c318_.gNum, .sl (List.map GTerm.c c318_.gKids)]) }, {}, { r := some (.v (.str d319_) []) }] [] [2] [] [] ⟨[(2, (.v (.str (((((((bs [40]) ++ d316_) ++ (bs [32])) ++ d317_) ++ (bs [32])) ++ d319_) ++ (bs [41]))), []))], [], []⟩ _ (by kernel_rfl) (fun X => by kernel_rfl) (.cons (at_obl (c := GTerm.c) (GTerm.c_eq c315_) GTerm.c_len h538) (.cons (len_ok 4 [.int .i64 c315_.gKind, .str c315_.gName, .int .i64 c315_.gNum, .sl (List.map GTerm.c c315_.gKids)]) (.cons (ih_pimpl_write h539) (.cons h540 (.cons h541 (.cons (cimpl_signText h542) (.cons h543 (.cons h544 (.cons (at_obl (c := GTerm.c) (GTerm.c_eq c318_) GTerm.c_len h545) (.cons (len_ok 4 [.int .i64 c318_.gKind, .str c318_.gName, .int .i64 c318_.gNum, .sl (List.map GTerm.c c318_.gKids)]) (.cons (ih_pimpl_write h546) (.cons h547 (.cons h548 .nil))))))))))))) ?_
      refine Wc.ret ?_
      obtain rfl := Option.some.inj h
      exact ⟨.inl rfl, by kernel_rfl, by kernel_rfl⟩
theorem cimpl_write {k : Nat} {c281_ : GTerm} {r : ByteArray} (h : pimpl_write k c281_ = some r) : FnO Tryd.prog 14 [.v (.agg [.int .i64 c281_.gKind, .str c281_.gName, .int .i64 c281_.gNum, .sl (List.map GTerm.c c281_.gKids)]) []] (.v (.str r) []) [] := (all_pimpl_write k).1 h
theorem cimpl_write_1 {k : Nat} {c314_ : GTerm} {r : ByteArray} (h : pimpl_write_1 k c314_ = some r) : FnO Tryd.prog 26 [.v (.agg [.int .i64 c314_.gKind, .str c314_.gName, .int .i64 c314_.gNum, .sl (List.map GTerm.c c314_.gKids)]) []] (.v (.str r) []) [] := (all_pimpl_write k).2 h

/-- impl.WriteTerm -/
def pimpl_WriteTerm (k : Nat) (c279_ : GTerm) : Option ByteArray :=
  (pimpl_TermOk k c279_).bind fun e280_ =>
  if (!e280_) = true then
    some (bs [])
  else
    (pimpl_write k c279_).bind fun d281_ =>
    some d281_
theorem cimpl_WriteTerm {k : Nat} {c279_ : GTerm} {r : ByteArray} (h : pimpl_WriteTerm k c279_ = some r) : FnO Tryd.prog 7 [.v (.agg [.int .i64 c279_.gKind, .str c279_.gName, .int .i64 c279_.gNum, .sl (List.map GTerm.c c279_.gKids)]) []] (.v (.str r) []) [] := by
  refine FnO.of Tryd.func7 (rfl : Tryd.f7.body = some _) (Nat.le_of_ble_eq_true (by kernel_rfl)) (Nat.le_of_ble_eq_true (by kernel_rfl)) ?_
  intro w0 X0 Fin pv0 pb gt
  unfold pimpl_WriteTerm at h
  refine Wc.seq ?_
  refine Wc.region [] [] [1] [1] [] ⟨[(1, (.ptr 1 0, []))], [(1, .cells [.int .i64 c279_.gKind, .str c279_.gName, .int .i64 c279_.gNum, .sl (List.map GTerm.c c279_.gKids)] [])], []⟩ _ (by kernel_rfl) .nil ?_
  refine Wc.seq ?_
  refine Wc.seq ?_
  obtain ⟨e280_, h484, h⟩ := obind h
  refine Wc.region [{}, { r := some (.v (.bool e280_) []) }] [] [1, 5] [1] [] ⟨[(1, (.ptr 1 0, [])), (5, (.v (.bool (!e280_)), []))], [(1, .cells [.int .i64 c279_.gKind, .str c279_.gName, .int .i64 c279_.gNum, .sl (List.map GTerm.c c279_.gKids)] [])], []⟩ _ (by kernel_rfl) (.cons (cimpl_TermOk h484) .nil) ?_
  rcases oif h with ⟨h485, h⟩ | ⟨h485, h⟩
  · refine Wc.condT h485 (by kernel_rfl) ?_
    refine Wc.seq ?_
    refine Wc.region [] [] [2] [] [] ⟨[(2, (.v (.str (bs [])), []))], [], []⟩ _ (by kernel_rfl) .nil ?_
    refine Wc.ret ?_
    obtain rfl := Option.some.inj h
    exact ⟨.inl rfl, by kernel_rfl, by kernel_rfl⟩
  · refine Wc.condF h485 (by kernel_rfl) ?_
    refine Wc.fix (st' := ⟨[(1, (.ptr 1 0, []))], [(1, .cells [.int .i64 c279_.gKind, .str c279_.gName, .int .i64 c279_.gNum, .sl (List.map GTerm.c c279_.gKids)] [])], []⟩) [] [1] [1] [] (by kernel_rfl) ?_
    refine Wc.skip ?_
    refine Wc.seq ?_
    obtain ⟨d281_, h486, h⟩ := obind h
    refine Wc.region [{}, { r := some (.v (.str d281_) []) }] [] [2] [] [] ⟨[(2, (.v (.str d281_), []))], [], []⟩ _ (by kernel_rfl) (.cons (cimpl_write h486) .nil) ?_
    refine Wc.ret ?_
    obtain rfl := Option.some.inj h
    exact ⟨.inl rfl, by kernel_rfl, by kernel_rfl⟩
end Go.Proofs.YtmfimfgdbmjkkaaDoor

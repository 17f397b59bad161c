/- What the functions do, part 3. -/
import Derived.Test.YtipjloclobcpkaaGreatDoorFnb
set_option linter.unusedVariables false
set_option linter.unusedSimpArgs false
namespace Go.Proofs.YtipjloclobcpkaaGreatDoor
open Go.RowKit Go.Bv
def pQ_l07Row_L1 (k : Nat) (rspec_l07Row : GTerm → Option ByteArray) (rspec_l07Write : GTerm → Option ByteArray) : Nat → ByteArray → GTerm → Option (Out ByteArray (ByteArray × GTerm))
  | 0, _, _ => none
  | m + 1, u25, u3e =>
    (at' u3e.gKids 1).bind fun u9w =>
    (pQ_l03Is k u9w (bs [46]) 2).bind fun ucg =>
    if ucg = true then
      (at' u3e.gKids 1).bind fun u4i =>
      if sumOk u25 (bs [44]) then
        (at' u4i.gKids 0).bind fun u9x =>
        (rspec_l07Write u9x).bind fun u9y =>
        if sumOk (u25 ++ (bs [44])) u9y then
          pQ_l07Row_L1 k rspec_l07Row rspec_l07Write m ((u25 ++ (bs [44])) ++ u9y) u4i
        else none
      else none
    else
      some (.done (u25, u3e))
def pQ_l07Write_J2 (k : Nat) (rspec_l07Row : GTerm → Option ByteArray) (rspec_l07Write : GTerm → Option ByteArray) (ub : GTerm) (u3f : ByteArray) : Option ByteArray :=
  (at' ub.gKids 0).bind fun u9z =>
  (rspec_l07Write u9z).bind fun u3g =>
  if sumOk (bs [40]) u3g then
    if sumOk ((bs [40]) ++ u3g) (bs [32]) then
      if sumOk (((bs [40]) ++ u3g) ++ (bs [32])) u3f then
        if sumOk ((((bs [40]) ++ u3g) ++ (bs [32])) ++ u3f) (bs [32]) then
          (at' ub.gKids 1).bind fun ua0 =>
          (rspec_l07Write ua0).bind fun u6x =>
          if sumOk (((((bs [40]) ++ u3g) ++ (bs [32])) ++ u3f) ++ (bs [32])) u6x then
            if sumOk ((((((bs [40]) ++ u3g) ++ (bs [32])) ++ u3f) ++ (bs [32])) ++ u6x) (bs [41]) then
              some (((((((bs [40]) ++ u3g) ++ (bs [32])) ++ u3f) ++ (bs [32])) ++ u6x) ++ (bs [41]))
            else none
          else none
        else none
      else none
    else none
  else none
def pQ_l07Write_J4 (k : Nat) (rspec_l07Row : GTerm → Option ByteArray) (rspec_l07Write : GTerm → Option ByteArray) (bk_ : ByteArray → Int → Option (Out ByteArray ByteArray)) (ub : GTerm) (zw : Int) (u4j : ByteArray) : Option (Out ByteArray ByteArray) :=
  (at' ub.gKids zw).bind fun ua1 =>
  (rspec_l07Write ua1).bind fun u6y =>
  if sumOk u4j u6y then
    bk_ (u4j ++ u6y) (wr.i64 (zw + 1))
  else none
def pQ_l07Write_L3 (k : Nat) (rspec_l07Row : GTerm → Option ByteArray) (rspec_l07Write : GTerm → Option ByteArray) (ub : GTerm) : Nat → ByteArray → Int → Option (Out ByteArray ByteArray)
  | 0, _, _ => none
  | m + 1, u1w, zw =>
    if (decide (zw < (ub.gKids.length : Int))) = true then
      if (decide (zw > 0)) = true then
        if sumOk u1w (bs [44]) then
          pQ_l07Write_J4 k rspec_l07Row rspec_l07Write (pQ_l07Write_L3 k rspec_l07Row rspec_l07Write ub m) ub zw (u1w ++ (bs [44]))
        else none
      else
        pQ_l07Write_J4 k rspec_l07Row rspec_l07Write (pQ_l07Write_L3 k rspec_l07Row rspec_l07Write ub m) ub zw u1w
    else
      some (.done u1w)
def pQ_l07Write_J1 (k : Nat) (rspec_l07Row : GTerm → Option ByteArray) (rspec_l07Write : GTerm → Option ByteArray) (ub : GTerm) (ua2 : Bool) : Option ByteArray :=
  if ua2 = true then
    (pQ_AtomText k ub.gName).bind fun u6z =>
    if (sEq ub.gName (bs [44])) = true then
      pQ_l07Write_J2 k rspec_l07Row rspec_l07Write ub (bs [44])
    else
      pQ_l07Write_J2 k rspec_l07Row rspec_l07Write ub u6z
  else
    (pQ_AtomText k ub.gName).bind fun u70 =>
    if sumOk u70 (bs [40]) then
      (pQ_l07Write_L3 k rspec_l07Row rspec_l07Write ub k (u70 ++ (bs [40])) 0).bind fun out3 => match out3 with
      | .ret r => some r
      | .done u5c =>
        if sumOk u5c (bs [41]) then
          some (u5c ++ (bs [41]))
        else none
    else none
mutual
def pQ_l07Row : Nat → GTerm → Option ByteArray
  | 0, _ => none
  | k + 1, u2o =>
    (at' u2o.gKids 0).bind fun ua3 =>
    (pQ_l07Write k ua3).bind fun ua4 =>
    if sumOk (bs [91]) ua4 then
      (pQ_l07Row_L1 k (pQ_l07Row k) (pQ_l07Write k) k ((bs [91]) ++ ua4) u2o).bind fun out1 => match out1 with
      | .ret r => some r
      | .done (zx, ua5) =>
        (at' ua5.gKids 1).bind fun u1x =>
        if (u1x.gKind == 2) = true then
          if (sEq u1x.gName (bs [91, 93])) = true then
            if sumOk zx (bs [93]) then
              some (zx ++ (bs [93]))
            else none
          else
            if sumOk zx (bs [124]) then
              (pQ_l07Write k u1x).bind fun u71 =>
              if sumOk (zx ++ (bs [124])) u71 then
                if sumOk ((zx ++ (bs [124])) ++ u71) (bs [93]) then
                  some (((zx ++ (bs [124])) ++ u71) ++ (bs [93]))
                else none
              else none
            else none
        else
          if sumOk zx (bs [124]) then
            (pQ_l07Write k u1x).bind fun u72 =>
            if sumOk (zx ++ (bs [124])) u72 then
              if sumOk ((zx ++ (bs [124])) ++ u72) (bs [93]) then
                some (((zx ++ (bs [124])) ++ u72) ++ (bs [93]))
              else none
            else none
          else none
    else none
def pQ_l07Write : Nat → GTerm → Option ByteArray
  | 0, _ => none
  | k + 1, ub =>
    if (ub.gKind == 1) = true then
      (pQ_Decimal k ub.gNum).bind fun ua6 =>
      if sumOk (bs [95]) ua6 then
        some ((bs [95]) ++ ua6)
      else none
    else
      if (ub.gKind == 3) = true then
        if (decide (ub.gNum < 0)) = true then
          (pQ_Decimal k (wr.i64 (0 - ub.gNum))).bind fun ua7 =>
          if sumOk (bs [45]) ua7 then
            some ((bs [45]) ++ ua7)
          else none
        else
          (pQ_Decimal k ub.gNum).bind fun uch =>
          some uch
      else
        if (ub.gKind == 2) = true then
          if (sEq ub.gName (bs [91, 93])) = true then
            some (bs [91, 93])
          else
            (pQ_l07Op k ub.gName).bind fun uci =>
            if uci = true then
              (pQ_AtomText k ub.gName).bind fun u73 =>
              if sumOk (bs [40]) u73 then
                if sumOk ((bs [40]) ++ u73) (bs [41]) then
                  some (((bs [40]) ++ u73) ++ (bs [41]))
                else none
              else none
            else
              (pQ_AtomText k ub.gName).bind fun ucj =>
              some ucj
        else
          (pQ_l03Is k ub (bs [46]) 2).bind fun uck =>
          if uck = true then
            (pQ_l07Row k ub).bind fun ucl =>
            some ucl
          else
            (pQ_InfixOf k ub.gName).bind fun ua8 =>
            if ua8.2 = true then
              pQ_l07Write_J1 k (pQ_l07Row k) (pQ_l07Write k) ub ((ub.gKids.length : Int) == 2)
            else
              pQ_l07Write_J1 k (pQ_l07Row k) (pQ_l07Write k) ub false
end
set_option maxHeartbeats 4000000 in
theorem all_pQ_l07Row : ∀ k : Nat, (∀ {u2o : GTerm} {r : ByteArray}, pQ_l07Row k u2o = some r → FnO Tryz.prog 107 [.v (.agg (GTerm.q u2o)) []] (.v (.str r) []) []) ∧
    (∀ {ub : GTerm} {r : ByteArray}, pQ_l07Write k ub = some r → FnO Tryz.prog 51 [.v (.agg (GTerm.q ub)) []] (.v (.str r) []) []) := by
  intro k
  induction k with
  | zero =>
    refine ⟨?_, ?_⟩
    · intro u2o r h
      exact (onone (by rw [pQ_l07Row] at h; exact h)).elim
    · intro ub r h
      exact (onone (by rw [pQ_l07Write] at h; exact h)).elim
  | succ k ih =>
    obtain ⟨ih_pQ_l07Row, ih_pQ_l07Write⟩ := ih
    refine ⟨?_, ?_⟩
    · intro u2o r h
      rw [pQ_l07Row] at h
      refine FnO.o2 Tryz.func107 (rfl : Tryz.f107.body = some _) ?_
      intro w0 X0 Fin pv0 pb gt
      apply Wc.seq
      refine Wc.r0 ⟨[tP 1 1], [bC 1 (GTerm.q u2o)], []⟩ ?_
      apply Wc.seq
      obtain ⟨ua3, h801, h⟩ := obind h
      obtain ⟨ua4, h802, h⟩ := obind h
      obtain ⟨h803, h⟩ := oguard h
      refine Wc.r2 [{}, {}, { v := some (.vptr (GTerm.q ua3)) }, {}, { r := some (.v (.str ua4) []) }] ⟨[tP 1 1, tS 3 ((bs [91]) ++ ua4)], [bC 1 (GTerm.q u2o)], []⟩ (.cons (at_obl (c := GTerm.c) (GTerm.c_eq ua3) GTerm.c_len h801) (.cons (len_ok 4 (GTerm.q ua3)) (.cons (ih_pQ_l07Write h802) (.cons h803 .nil)))) ?_
      obtain ⟨out1, h804, h⟩ := obind h
      refine Wc.seqJ (fun st => ∃ (zx : ByteArray) (ua5 : GTerm), out1 = .done (zx, ua5) ∧ st = ⟨[tP 1 1, tS 3 zx], [bC 1 (GTerm.q ua5)], []⟩) ?_ ?_
      · refine Wc.block ?_
        refine Wc.loop (fun m st => ∃ (u25 : ByteArray) (u3e : GTerm), st = ⟨[tP 1 1, tS 3 u25], [bC 1 (GTerm.q u3e)], []⟩ ∧ pQ_l07Row_L1 k (pQ_l07Row k) (pQ_l07Write k) m u25 u3e = some out1) ?_ k ⟨_, _, rfl, h804⟩
        rintro m st ⟨u25, u3e, rfl, h804⟩
        cases m with
        | zero => exact (onone h804).elim
        | succ m =>
          apply Wc.seq
          apply Wc.seq
          obtain ⟨u9w, h805, h804⟩ := obind h804
          obtain ⟨ucg, h806, h804⟩ := obind h804
          refine Wc.r2 [{}, {}, { v := some (.vptr (GTerm.q u9w)) }, {}, { r := some (.v (.bool ucg) []) }] ⟨[tP 1 1, tS 3 u25, tB 15 ucg], [bC 1 (GTerm.q u3e)], []⟩ (.cons (at_obl (c := GTerm.c) (GTerm.c_eq u9w) GTerm.c_len h805) (.cons (len_ok 4 (GTerm.q u9w)) (.cons (cQ_l03Is h806) .nil))) ?_
          rcases oif h804 with ⟨h807, h804⟩ | ⟨h807, h804⟩
          · refine Wc.cT h807 ?_
            refine Wc.fx [] ⟨[tP 1 1, tS 3 u25], [bC 1 (GTerm.q u3e)], []⟩ ?_
            refine Wc.skip ?_
            refine Wc.block ?_
            apply Wc.seq
            obtain ⟨u4i, h808, h804⟩ := obind h804
            refine Wc.r2 [{}, {}, { v := some (.vptr (GTerm.q u4i)) }] ⟨[tP 1 1, tS 3 u25], [bC 1 (GTerm.q u4i)], []⟩ (.cons (at_obl (c := GTerm.c) (GTerm.c_eq u4i) GTerm.c_len h808) (.cons (len_ok 4 (GTerm.q u4i)) .nil)) ?_
            obtain ⟨h809, h804⟩ := oguard h804
            obtain ⟨u9x, h810, h804⟩ := obind h804
            obtain ⟨u9y, h811, h804⟩ := obind h804
            obtain ⟨h812, h804⟩ := oguard h804
            refine Wc.r2 [{}, {}, {}, {}, { v := some (.vptr (GTerm.q u9x)) }, {}, { r := some (.v (.str u9y) []) }] ⟨[tP 1 1, tS 3 ((u25 ++ (bs [44])) ++ u9y)], [bC 1 (GTerm.q u4i)], []⟩ (.cons h809 (.cons (at_obl (c := GTerm.c) (GTerm.c_eq u9x) GTerm.c_len h810) (.cons (len_ok 4 (GTerm.q u9x)) (.cons (ih_pQ_l07Write h811) (.cons h812 .nil))))) ?_
            exact ⟨_, Nat.lt_succ_self _, _, _, rfl, h804⟩
          · refine Wc.cF h807 ?_
            refine Wc.fx [] ⟨[tP 1 1, tS 3 u25], [bC 1 (GTerm.q u3e)], []⟩ ?_
            refine Wc.exit ?_
            obtain rfl := oInj h804
            exact ⟨_, _, rfl, rfl⟩
      · rintro st ⟨zx, ua5, rfl, rfl⟩
        apply Wc.seq
        obtain ⟨u1x, h813, h⟩ := obind h
        refine Wc.r2 [{}, {}, { v := some (.vptr (GTerm.q u1x)) }] ⟨[tS 3 zx, tP 4 4], [bC 4 (GTerm.q u1x)], []⟩ (.cons (at_obl (c := GTerm.c) (GTerm.c_eq u1x) GTerm.c_len h813) (.cons (len_ok 4 (GTerm.q u1x)) .nil)) ?_
        apply Wc.seq
        apply Wc.seq
        rcases oif h with ⟨h814, h⟩ | ⟨h814, h⟩
        · refine Wc.r2 [{}, {}, {}, { re := some (.bool true) }] ⟨[tS 3 zx, tP 4 4, tB 39 (sEq u1x.gName (bs [91, 93]))], [bC 4 (GTerm.q u1x)], []⟩ (.cons (congrArg AV.bool h814) .nil) ?_
          rcases oif h with ⟨h815, h⟩ | ⟨h815, h⟩
          · refine Wc.cT h815 ?_
            apply Wc.seq
            obtain ⟨h816, h⟩ := oguard h
            refine Wc.r2 [] ⟨[tS 2 (zx ++ (bs [93]))], [], []⟩ (.cons h816 .nil) ?_
            obtain rfl := oInj h; exact Wc.ret dn
          · refine Wc.cF h815 ?_
            refine Wc.fx [] ⟨[tS 3 zx, tP 4 4], [bC 4 (GTerm.q u1x)], []⟩ ?_
            refine Wc.skip ?_
            apply Wc.seq
            obtain ⟨h817, h⟩ := oguard h
            obtain ⟨u71, h818, h⟩ := obind h
            obtain ⟨h819, h⟩ := oguard h
            obtain ⟨h820, h⟩ := oguard h
            refine Wc.r2 [{}, {}, {}, { r := some (.v (.str u71) []) }] ⟨[tS 2 (((zx ++ (bs [124])) ++ u71) ++ (bs [93]))], [], []⟩ (.cons h817 (.cons (ih_pQ_l07Write h818) (.cons h819 (.cons h820 .nil)))) ?_
            obtain rfl := oInj h; exact Wc.ret dn
        · refine Wc.r2 [{}, {}, {}, { re := some (.bool false) }] ⟨[tS 3 zx, tP 4 4, tB 39 false], [bC 4 (GTerm.q u1x)], []⟩ (.cons (congrArg AV.bool h814) .nil) ?_
          refine Wc.cF rfl ?_
          refine Wc.fx [] ⟨[tS 3 zx, tP 4 4], [bC 4 (GTerm.q u1x)], []⟩ ?_
          refine Wc.skip ?_
          apply Wc.seq
          obtain ⟨h821, h⟩ := oguard h
          obtain ⟨u72, h822, h⟩ := obind h
          obtain ⟨h823, h⟩ := oguard h
          obtain ⟨h824, h⟩ := oguard h
          refine Wc.r2 [{}, {}, {}, { r := some (.v (.str u72) []) }] ⟨[tS 2 (((zx ++ (bs [124])) ++ u72) ++ (bs [93]))], [], []⟩ (.cons h821 (.cons (ih_pQ_l07Write h822) (.cons h823 (.cons h824 .nil)))) ?_
          obtain rfl := oInj h; exact Wc.ret dn
    · intro ub r h
      rw [pQ_l07Write] at h
      refine FnO.o2 Tryz.func51 (rfl : Tryz.f51.body = some _) ?_
      intro w0 X0 Fin pv0 pb gt
      apply Wc.seq
      refine Wc.r0 ⟨[tP 1 1], [bC 1 (GTerm.q ub)], []⟩ ?_
      apply Wc.seq
      apply Wc.seq
      refine Wc.r0 ⟨[tP 1 1, tI 9 ub.gKind], [bC 1 (GTerm.q ub)], []⟩ ?_
      refine Wc.block ?_
      apply Wc.seq
      refine Wc.r0 ⟨[tP 1 1, tI 9 ub.gKind, tB 10 (ub.gKind == 1)], [bC 1 (GTerm.q ub)], []⟩ ?_
      rcases oif h with ⟨h825, h⟩ | ⟨h825, h⟩
      · refine Wc.cT h825 ?_
        apply Wc.seq
        obtain ⟨ua6, h826, h⟩ := obind h
        obtain ⟨h827, h⟩ := oguard h
        refine Wc.r2 [{}, {}, { r := some (.v (.str ua6) []) }] ⟨[tS 2 ((bs [95]) ++ ua6)], [], []⟩ (.cons (cQ_Decimal h826) (.cons h827 .nil)) ?_
        obtain rfl := oInj h; exact Wc.ret dn
      · refine Wc.cF h825 ?_
        apply Wc.seq
        refine Wc.r0 ⟨[tP 1 1, tI 9 ub.gKind, tB 16 (ub.gKind == 3)], [bC 1 (GTerm.q ub)], []⟩ ?_
        rcases oif h with ⟨h828, h⟩ | ⟨h828, h⟩
        · refine Wc.cT h828 ?_
          apply Wc.seq
          apply Wc.seq
          refine Wc.r0 ⟨[tP 1 1, tB 20 (decide (ub.gNum < 0))], [bC 1 (GTerm.q ub)], []⟩ ?_
          rcases oif h with ⟨h829, h⟩ | ⟨h829, h⟩
          · refine Wc.cT h829 ?_
            apply Wc.seq
            obtain ⟨ua7, h830, h⟩ := obind h
            obtain ⟨h831, h⟩ := oguard h
            refine Wc.r2 [{}, {}, {}, { r := some (.v (.str ua7) []) }] ⟨[tS 2 ((bs [45]) ++ ua7)], [], []⟩ (.cons (cQ_Decimal h830) (.cons h831 .nil)) ?_
            obtain rfl := oInj h; exact Wc.ret dn
          · refine Wc.cF h829 ?_
            refine Wc.fx [] ⟨[tP 1 1], [bC 1 (GTerm.q ub)], []⟩ ?_
            refine Wc.skip ?_
            apply Wc.seq
            obtain ⟨uch, h832, h⟩ := obind h
            refine Wc.r2 [{}, {}, { r := some (.v (.str uch) []) }] ⟨[tS 2 uch], [], []⟩ (.cons (cQ_Decimal h832) .nil) ?_
            obtain rfl := oInj h; exact Wc.ret dn
        · refine Wc.cF h828 ?_
          apply Wc.seq
          refine Wc.r0 ⟨[tP 1 1, tB 29 (ub.gKind == 2)], [bC 1 (GTerm.q ub)], []⟩ ?_
          rcases oif h with ⟨h833, h⟩ | ⟨h833, h⟩
          · refine Wc.cT h833 ?_
            apply Wc.seq
            apply Wc.seq
            refine Wc.r0 ⟨[tP 1 1, tB 33 (sEq ub.gName (bs [91, 93]))], [bC 1 (GTerm.q ub)], []⟩ ?_
            rcases oif h with ⟨h834, h⟩ | ⟨h834, h⟩
            · refine Wc.cT h834 ?_
              apply Wc.seq
              refine Wc.r0 ⟨[tS 2 (bs [91, 93])], [], []⟩ ?_
              obtain rfl := oInj h; exact Wc.ret dn
            · refine Wc.cF h834 ?_
              refine Wc.fx [] ⟨[tP 1 1], [bC 1 (GTerm.q ub)], []⟩ ?_
              refine Wc.skip ?_
              apply Wc.seq
              apply Wc.seq
              obtain ⟨uci, h835, h⟩ := obind h
              refine Wc.r2 [{}, {}, { r := some (.v (.bool uci) []) }] ⟨[tP 1 1, tB 36 uci], [bC 1 (GTerm.q ub)], []⟩ (.cons (cQ_l07Op h835) .nil) ?_
              rcases oif h with ⟨h836, h⟩ | ⟨h836, h⟩
              · refine Wc.cT h836 ?_
                apply Wc.seq
                obtain ⟨u73, h837, h⟩ := obind h
                obtain ⟨h838, h⟩ := oguard h
                obtain ⟨h839, h⟩ := oguard h
                refine Wc.r2 [{}, {}, { r := some (.v (.str u73) []) }] ⟨[tS 2 (((bs [40]) ++ u73) ++ (bs [41]))], [], []⟩ (.cons (cQ_AtomText h837) (.cons h838 (.cons h839 .nil))) ?_
                obtain rfl := oInj h; exact Wc.ret dn
              · refine Wc.cF h836 ?_
                refine Wc.fx [] ⟨[tP 1 1], [bC 1 (GTerm.q ub)], []⟩ ?_
                refine Wc.skip ?_
                apply Wc.seq
                obtain ⟨ucj, h840, h⟩ := obind h
                refine Wc.r2 [{}, {}, { r := some (.v (.str ucj) []) }] ⟨[tS 2 ucj], [], []⟩ (.cons (cQ_AtomText h840) .nil) ?_
                obtain rfl := oInj h; exact Wc.ret dn
          · refine Wc.cF h833 ?_
            refine Wc.fx [] ⟨[tP 1 1], [bC 1 (GTerm.q ub)], []⟩ ?_
            refine Wc.skip ?_
            apply Wc.seq
            apply Wc.seq
            obtain ⟨uck, h841, h⟩ := obind h
            refine Wc.r2 [{}, { r := some (.v (.bool uck) []) }] ⟨[tP 1 1, tB 46 uck], [bC 1 (GTerm.q ub)], []⟩ (.cons (cQ_l03Is h841) .nil) ?_
            rcases oif h with ⟨h842, h⟩ | ⟨h842, h⟩
            · refine Wc.cT h842 ?_
              apply Wc.seq
              obtain ⟨ucl, h843, h⟩ := obind h
              refine Wc.r2 [{}, { r := some (.v (.str ucl) []) }] ⟨[tS 2 ucl], [], []⟩ (.cons (ih_pQ_l07Row h843) .nil) ?_
              obtain rfl := oInj h; exact Wc.ret dn
            · refine Wc.cF h842 ?_
              refine Wc.fx [] ⟨[tP 1 1], [bC 1 (GTerm.q ub)], []⟩ ?_
              refine Wc.skip ?_
              apply Wc.seq
              obtain ⟨ua8, h844, h⟩ := obind h
              refine Wc.r2 [{}, {}, { r := some (.v (.tup [.agg (GOp.q ua8.1), .bool ua8.2]) []) }] ⟨[tP 1 1, tB 4 ua8.2], [bC 1 (GTerm.q ub)], []⟩ (.cons (cQ_InfixOf h844) .nil) ?_
              apply Wc.seq
              refine Wc.seqJ (fun st => ∃ (ua2 : Bool), st = ⟨[tP 1 1, tB 61 ua2], [bC 1 (GTerm.q ub)], []⟩ ∧ pQ_l07Write_J1 k (pQ_l07Row k) (pQ_l07Write k) ub ua2 = some r) ?_ ?_
              · rcases oif h with ⟨h868, h⟩ | ⟨h868, h⟩
                · refine Wc.r2 [{}, { re := some (.bool true) }, {}, {}, { v := some (aI (ub.gKids.length : Int)) }] ⟨[tP 1 1, tB 61 ((ub.gKids.length : Int) == 2)], [bC 1 (GTerm.q ub)], []⟩ (.cons (congrArg AV.bool h868) (.cons (len_obl GTerm.c ub.gKids) .nil)) ?_
                  exact ⟨_, rfl, h⟩
                · refine Wc.r2 [{}, { re := some (.bool false) }] ⟨[tP 1 1, tB 61 false], [bC 1 (GTerm.q ub)], []⟩ (.cons (congrArg AV.bool h868) .nil) ?_
                  exact ⟨_, rfl, h⟩
              · rintro st ⟨ua2, rfl, h⟩
                rcases oif h with ⟨h845, h⟩ | ⟨h845, h⟩
                · refine Wc.cT h845 ?_
                  apply Wc.seq
                  obtain ⟨u6z, h846, h⟩ := obind h
                  refine Wc.r2 [{}, {}, { r := some (.v (.str u6z) []) }] ⟨[tP 1 1, tS 5 u6z], [bC 1 (GTerm.q ub)], []⟩ (.cons (cQ_AtomText h846) .nil) ?_
                  refine Wc.seqJ (fun st => ∃ (u3f : ByteArray), st = ⟨[tP 1 1, tS 5 u3f], [bC 1 (GTerm.q ub)], []⟩ ∧ pQ_l07Write_J2 k (pQ_l07Row k) (pQ_l07Write k) ub u3f = some r) ?_ ?_
                  · apply Wc.seq
                    refine Wc.r0 ⟨[tP 1 1, tS 5 u6z, tB 67 (sEq ub.gName (bs [44]))], [bC 1 (GTerm.q ub)], []⟩ ?_
                    rcases oif h with ⟨h857, h⟩ | ⟨h857, h⟩
                    · refine Wc.cT h857 ?_
                      refine Wc.r0 ⟨[tP 1 1, tS 5 (bs [44])], [bC 1 (GTerm.q ub)], []⟩ ?_
                      exact ⟨_, rfl, h⟩
                    · refine Wc.cF h857 ?_
                      refine Wc.fx [] ⟨[tP 1 1, tS 5 u6z], [bC 1 (GTerm.q ub)], []⟩ ?_
                      refine Wc.skip ?_
                      exact ⟨_, rfl, h⟩
                  · rintro st ⟨u3f, rfl, h⟩
                    apply Wc.seq
                    obtain ⟨u9z, h847, h⟩ := obind h
                    obtain ⟨u3g, h848, h⟩ := obind h
                    obtain ⟨h849, h⟩ := oguard h
                    obtain ⟨h850, h⟩ := oguard h
                    obtain ⟨h851, h⟩ := oguard h
                    obtain ⟨h852, h⟩ := oguard h
                    obtain ⟨ua0, h853, h⟩ := obind h
                    obtain ⟨u6x, h854, h⟩ := obind h
                    obtain ⟨h855, h⟩ := oguard h
                    obtain ⟨h856, h⟩ := oguard h
                    refine Wc.draw hmix [{}, {}, { v := some (.vptr (GTerm.q u9z)) }, {}, { r := some (.v (.str u3g) []) }, {}, {}, {}, {}, {}, {}, {}, { v := some (.vptr (GTerm.q ua0)) }, {}, { r := some (.v (.str u6x) []) }] [] [2] [] [] ⟨[tS 2 (((((((bs [40]) ++ u3g) ++ (bs [32])) ++ u3f) ++ (bs [32])) ++ u6x) ++ (bs [41]))], [], []⟩ _ (by kernel_rfl) (fun X => by kernel_rfl) (.cons (at_obl (c := GTerm.c) (GTerm.c_eq u9z) GTerm.c_len h847) (.cons (len_ok 4 (GTerm.q u9z)) (.cons (ih_pQ_l07Write h848) (.cons h849 (.cons h850 (.cons h851 (.cons h852 (.cons (at_obl (c := GTerm.c) (GTerm.c_eq ua0) GTerm.c_len h853) (.cons (len_ok 4 (GTerm.q ua0)) (.cons (ih_pQ_l07Write h854) (.cons h855 (.cons h856 .nil)))))))))))) ?_
                    obtain rfl := oInj h; exact Wc.ret dn
                · refine Wc.cF h845 ?_
                  refine Wc.fx [] ⟨[tP 1 1], [bC 1 (GTerm.q ub)], []⟩ ?_
                  refine Wc.skip ?_
                  apply Wc.seq
                  obtain ⟨u70, h858, h⟩ := obind h
                  obtain ⟨h859, h⟩ := oguard h
                  refine Wc.r2 [{}, {}, { r := some (.v (.str u70) []) }] ⟨[tP 1 1, tS 6 (u70 ++ (bs [40]))], [bC 1 (GTerm.q ub)], []⟩ (.cons (cQ_AtomText h858) (.cons h859 .nil)) ?_
                  apply Wc.seq
                  apply Wc.seq
                  refine Wc.r0 ⟨[tP 1 1, tS 6 (u70 ++ (bs [40])), tI 7 0], [bC 1 (GTerm.q ub)], []⟩ ?_
                  obtain ⟨out3, h860, h⟩ := obind h
                  refine Wc.lastJ (fun st => ∃ (u5c : ByteArray), out3 = .done u5c ∧ st = ⟨[tS 6 u5c], [], []⟩) ?_ ?_
                  · refine Wc.block ?_
                    refine Wc.loop (fun m st => ∃ (u1w : ByteArray) (zw : Int), st = ⟨[tP 1 1, tS 6 u1w, tI 7 zw], [bC 1 (GTerm.q ub)], []⟩ ∧ pQ_l07Write_L3 k (pQ_l07Row k) (pQ_l07Write k) ub m u1w zw = some out3) ?_ k ⟨_, _, rfl, h860⟩
                    rintro m st ⟨u1w, zw, rfl, h860⟩
                    cases m with
                    | zero => exact (onone h860).elim
                    | succ m =>
                      apply Wc.seq
                      apply Wc.seq
                      refine Wc.r2 [{}, {}, {}, { v := some (aI (ub.gKids.length : Int)) }] ⟨[tP 1 1, tS 6 u1w, tI 7 zw, tB 93 (decide (zw < (ub.gKids.length : Int)))], [bC 1 (GTerm.q ub)], []⟩ (.cons (len_obl GTerm.c ub.gKids) .nil) ?_
                      rcases oif h860 with ⟨h861, h860⟩ | ⟨h861, h860⟩
                      · refine Wc.cT h861 ?_
                        refine Wc.fx [] ⟨[tP 1 1, tS 6 u1w, tI 7 zw], [bC 1 (GTerm.q ub)], []⟩ ?_
                        refine Wc.skip ?_
                        apply Wc.seq
                        refine Wc.block ?_
                        refine Wc.seqJ (fun st => ∃ (u4j : ByteArray), st = ⟨[tP 1 1, tS 6 u4j, tI 7 zw], [bC 1 (GTerm.q ub)], []⟩ ∧ pQ_l07Write_J4 k (pQ_l07Row k) (pQ_l07Write k) (pQ_l07Write_L3 k (pQ_l07Row k) (pQ_l07Write k) ub m) ub zw u4j = some out3) ?_ ?_
                        · apply Wc.seq
                          refine Wc.r0 ⟨[tP 1 1, tS 6 u1w, tI 7 zw, tB 97 (decide (zw > 0))], [bC 1 (GTerm.q ub)], []⟩ ?_
                          rcases oif h860 with ⟨h865, h860⟩ | ⟨h865, h860⟩
                          · refine Wc.cT h865 ?_
                            obtain ⟨h866, h860⟩ := oguard h860
                            refine Wc.r2 [] ⟨[tP 1 1, tS 6 (u1w ++ (bs [44])), tI 7 zw], [bC 1 (GTerm.q ub)], []⟩ (.cons h866 .nil) ?_
                            exact ⟨_, rfl, h860⟩
                          · refine Wc.cF h865 ?_
                            refine Wc.fx [] ⟨[tP 1 1, tS 6 u1w, tI 7 zw], [bC 1 (GTerm.q ub)], []⟩ ?_
                            refine Wc.skip ?_
                            exact ⟨_, rfl, h860⟩
                        · rintro st ⟨u4j, rfl, h860⟩
                          obtain ⟨ua1, h862, h860⟩ := obind h860
                          obtain ⟨u6y, h863, h860⟩ := obind h860
                          obtain ⟨h864, h860⟩ := oguard h860
                          refine Wc.r2 [{}, {}, {}, {}, { v := some (.vptr (GTerm.q ua1)) }, {}, { r := some (.v (.str u6y) []) }] ⟨[tP 1 1, tS 6 (u4j ++ u6y), tI 7 zw], [bC 1 (GTerm.q ub)], []⟩ (.cons (at_obl (c := GTerm.c) (GTerm.c_eq ua1) GTerm.c_len h862) (.cons (len_ok 4 (GTerm.q ua1)) (.cons (ih_pQ_l07Write h863) (.cons h864 .nil)))) ?_
                          refine Wc.r0 ⟨[tP 1 1, tS 6 (u4j ++ u6y), tI 7 (wr.i64 (zw + 1))], [bC 1 (GTerm.q ub)], []⟩ ?_
                          exact ⟨_, Nat.lt_succ_self _, _, _, rfl, h860⟩
                      · refine Wc.cF h861 ?_
                        refine Wc.fx [] ⟨[tS 6 u1w], [], []⟩ ?_
                        refine Wc.exit ?_
                        obtain rfl := oInj h860
                        exact ⟨_, rfl, rfl⟩
                  · rintro st ⟨u5c, rfl, rfl⟩
                    apply Wc.seq
                    obtain ⟨h867, h⟩ := oguard h
                    refine Wc.r2 [] ⟨[tS 2 (u5c ++ (bs [41]))], [], []⟩ (.cons h867 .nil) ?_
                    obtain rfl := oInj h; exact Wc.ret dn
theorem cQ_l07Write {k : Nat} {ub : GTerm} {r : ByteArray} (h : pQ_l07Write k ub = some r) : FnO Tryz.prog 51 [.v (.agg (GTerm.q ub)) []] (.v (.str r) []) [] := (all_pQ_l07Row k).2 h

def pQ_WriteTerm (k : Nat) (u4k : GTerm) : Option ByteArray :=
  (pQ_TermOk k u4k).bind fun ucm =>
  if (!ucm) = true then
    some (bs [])
  else
    (pQ_l07Write k u4k).bind fun ucn =>
    some ucn
theorem cQ_WriteTerm {k : Nat} {u4k : GTerm} {r : ByteArray} (h : pQ_WriteTerm k u4k = some r) : FnO Tryz.prog 15 [.v (.agg (GTerm.q u4k)) []] (.v (.str r) []) [] := by
  refine FnO.o2 Tryz.func15 (rfl : Tryz.f15.body = some _) ?_
  intro w0 X0 Fin pv0 pb gt
  unfold pQ_WriteTerm at h
  apply Wc.seq
  refine Wc.r0 ⟨[tP 1 1], [bC 1 (GTerm.q u4k)], []⟩ ?_
  apply Wc.seq
  apply Wc.seq
  obtain ⟨ucm, h869, h⟩ := obind h
  refine Wc.r2 [{}, { r := some (.v (.bool ucm) []) }] ⟨[tP 1 1, tB 5 (!ucm)], [bC 1 (GTerm.q u4k)], []⟩ (.cons (cQ_TermOk h869) .nil) ?_
  rcases oif h with ⟨h870, h⟩ | ⟨h870, h⟩
  · refine Wc.cT h870 ?_
    apply Wc.seq
    refine Wc.r0 ⟨[tS 2 (bs [])], [], []⟩ ?_
    obtain rfl := oInj h; exact Wc.ret dn
  · refine Wc.cF h870 ?_
    refine Wc.fx [] ⟨[tP 1 1], [bC 1 (GTerm.q u4k)], []⟩ ?_
    refine Wc.skip ?_
    apply Wc.seq
    obtain ⟨ucn, h871, h⟩ := obind h
    refine Wc.r2 [{}, { r := some (.v (.str ucn) []) }] ⟨[tS 2 ucn], [], []⟩ (.cons (cQ_l07Write h871) .nil) ?_
    obtain rfl := oInj h; exact Wc.ret dn

def plaws_FnWrites (k : Nat) (u1y : List Int) : Option Bool :=
  (plaws_big k u1y).bind fun uco =>
  if uco = true then
    some true
  else
    (pQ_DrawTerm k u1y).bind fun u3z =>
    (pU_WriteTerm k u3z).bind fun ua9 =>
    if sumOk ua9 (bs [32, 46]) then
      (pQ_ReadTerm k (ua9 ++ (bs [32, 46]))).bind fun u2p =>
      (pQ_DrawWriteTerm k u1y).bind fun u74 =>
      (pQ_DrawAtomText k u1y).bind fun uaa =>
      if u2p.2.2 = true then
        (pQ_Variant k u2p.1 u3z).bind fun uab =>
        if uab = true then
          (pU_WriteTerm k u74).bind fun ucp =>
          (pQ_WriteTerm k u74).bind fun ucq =>
          if (sEq ucp ucq) = true then
            (pU_AtomText k uaa).bind fun ucr =>
            (pQ_AtomText k uaa).bind fun ucs =>
            some (sEq ucr ucs)
          else
            some false
        else
          some false
      else
        some false
    else none
theorem claws_FnWrites {k : Nat} {u1y : List Int} {r : Bool} (h : plaws_FnWrites k u1y = some r) : FnO Tryz.prog 3 [.v (.sl (List.map cI.u8 u1y)) []] (.v (.bool r) []) [] := by
  refine FnO.o2 Tryz.func3 (rfl : Tryz.f3.body = some _) ?_
  intro w0 X0 Fin pv0 pb gt
  unfold plaws_FnWrites at h
  apply Wc.seq
  refine Wc.r0 ⟨[tV 0 (.sl (List.map cI.u8 u1y))], [], []⟩ ?_
  apply Wc.seq
  apply Wc.seq
  obtain ⟨uco, h872, h⟩ := obind h
  refine Wc.r2 [{}, { r := some (.v (.bool uco) []) }] ⟨[tV 0 (.sl (List.map cI.u8 u1y)), tB 11 uco], [], []⟩ (.cons (claws_big h872) .nil) ?_
  rcases oif h with ⟨h873, h⟩ | ⟨h873, h⟩
  · refine Wc.cT h873 ?_
    apply Wc.seq
    refine Wc.r0 ⟨[tB 2 true], [], []⟩ ?_
    obtain rfl := oInj h; exact Wc.ret dn
  · refine Wc.cF h873 ?_
    refine Wc.fx [] ⟨[tV 0 (.sl (List.map cI.u8 u1y))], [], []⟩ ?_
    refine Wc.skip ?_
    apply Wc.seq
    obtain ⟨u3z, h874, h⟩ := obind h
    refine Wc.r2 [{}, { r := some (.v (.agg (GTerm.q u3z)) [(3, .app 26)]) }, {}, { tk := [13] }] ⟨[tV 0 (.sl (List.map cI.u8 u1y)), tP 3 3], [(3, .cells (GTerm.q u3z) [(3, .app 26)])], []⟩ (.cons (cQ_DrawTerm h874) .nil) ?_
    apply Wc.seq
    obtain ⟨ua9, h875, h⟩ := obind h
    refine Wc.r2 [{}, { r := some (.v (.str ua9) []) }] ⟨[tV 0 (.sl (List.map cI.u8 u1y)), tP 3 3, tS 4 ua9], [(3, .cells (GTerm.q u3z) [(3, .app 26)])], []⟩ (.cons (cU_WriteTerm h875) .nil) ?_
    apply Wc.seq
    obtain ⟨h876, h⟩ := oguard h
    obtain ⟨u2p, h877, h⟩ := obind h
    refine Wc.r2 [{}, {}, { r := some (.v (.tup [.agg (GTerm.q u2p.1), .sl (List.map cS u2p.2.1), .bool u2p.2.2]) [(4, .app 9)]) }, { tk := [19] }, {}, { tk := [16] }, {}, {}, {}, { tk := [21] }] ⟨[tV 0 (.sl (List.map cI.u8 u1y)), tP 3 3, tP 5 5, tB 7 u2p.2.2], [(3, .cells (GTerm.q u3z) [(3, .app 26)]), bC 5 (GTerm.q u2p.1)], []⟩ (.cons h876 (.cons (cQ_ReadTerm h877) .nil)) ?_
    apply Wc.seq
    obtain ⟨u74, h878, h⟩ := obind h
    refine Wc.r2 [{}, { r := some (.v (.agg (GTerm.q u74)) [(3, .app 26)]) }, {}, { tk := [24] }] ⟨[tV 0 (.sl (List.map cI.u8 u1y)), tP 3 3, tP 5 5, tB 7 u2p.2.2, tP 8 8], [(3, .cells (GTerm.q u3z) [(3, .app 26)]), bC 5 (GTerm.q u2p.1), (8, .cells (GTerm.q u74) [(3, .app 26)])], []⟩ (.cons (cQ_DrawWriteTerm h878) .nil) ?_
    apply Wc.seq
    obtain ⟨uaa, h879, h⟩ := obind h
    refine Wc.r2 [{}, { r := some (.v (.str uaa) []) }] ⟨[tP 3 3, tP 5 5, tB 7 u2p.2.2, tP 8 8, tS 9 uaa], [(3, .cells (GTerm.q u3z) [(3, .app 26)]), bC 5 (GTerm.q u2p.1), (8, .cells (GTerm.q u74) [(3, .app 26)])], []⟩ (.cons (cQ_DrawAtomText h879) .nil) ?_
    apply Wc.seq
    rcases oif h with ⟨h880, h⟩ | ⟨h880, h⟩
    · obtain ⟨uab, h881, h⟩ := obind h
      rcases oif h with ⟨h882, h⟩ | ⟨h882, h⟩
      · obtain ⟨ucp, h883, h⟩ := obind h
        obtain ⟨ucq, h884, h⟩ := obind h
        rcases oif h with ⟨h885, h⟩ | ⟨h885, h⟩
        · obtain ⟨ucr, h886, h⟩ := obind h
          obtain ⟨ucs, h887, h⟩ := obind h
          refine Wc.draw hmix [{}, { re := some (.bool true) }, {}, {}, { r := some (.v (.bool uab) []) }, {}, { re := some (.bool true) }, {}, { r := some (.v (.str ucp) []) }, {}, { r := some (.v (.str ucq) []) }, {}, {}, { re := some (.bool true) }, {}, { r := some (.v (.str ucr) []) }, {}, { r := some (.v (.str ucs) []) }] [] [2] [] [] ⟨[tB 2 (sEq ucr ucs)], [], []⟩ _ (by kernel_rfl) (fun X => by kernel_rfl) (.cons (congrArg AV.bool h880) (.cons (cQ_Variant h881) (.cons (congrArg AV.bool h882) (.cons (cU_WriteTerm h883) (.cons (cQ_WriteTerm h884) (.cons (congrArg AV.bool h885) (.cons (cU_AtomText h886) (.cons (cQ_AtomText h887) .nil)))))))) ?_
          obtain rfl := oInj h; exact Wc.ret dn
        · refine Wc.draw hmix [{}, { re := some (.bool true) }, {}, {}, { r := some (.v (.bool uab) []) }, {}, { re := some (.bool true) }, {}, { r := some (.v (.str ucp) []) }, {}, { r := some (.v (.str ucq) []) }, {}, {}, { re := some (.bool false) }] [] [2] [] [] ⟨[tB 2 false], [], []⟩ _ (by kernel_rfl) (fun X => by kernel_rfl) (.cons (congrArg AV.bool h880) (.cons (cQ_Variant h881) (.cons (congrArg AV.bool h882) (.cons (cU_WriteTerm h883) (.cons (cQ_WriteTerm h884) (.cons (congrArg AV.bool h885) .nil)))))) ?_
          obtain rfl := oInj h; exact Wc.ret dn
      · refine Wc.draw hmix [{}, { re := some (.bool true) }, {}, {}, { r := some (.v (.bool uab) []) }, {}, { re := some (.bool false) }] [] [2] [] [] ⟨[tB 2 false], [], []⟩ _ (by kernel_rfl) (fun X => by kernel_rfl) (.cons (congrArg AV.bool h880) (.cons (cQ_Variant h881) (.cons (congrArg AV.bool h882) .nil))) ?_
        obtain rfl := oInj h; exact Wc.ret dn
    · refine Wc.draw hmix [{}, { re := some (.bool false) }] [] [2] [] [] ⟨[tB 2 false], [], []⟩ _ (by kernel_rfl) (fun X => by kernel_rfl) (.cons (congrArg AV.bool h880) .nil) ?_
      obtain rfl := oInj h; exact Wc.ret dn
end Go.Proofs.YtipjloclobcpkaaGreatDoor

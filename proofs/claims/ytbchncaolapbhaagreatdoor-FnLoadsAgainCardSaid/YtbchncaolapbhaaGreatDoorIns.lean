/- slices.DeleteFunc, walked. -/
import Derived.Test.YtbchncaolapbhaaGreatDoorProg
import Derived.Test.YtbchncaolapbhaaGreatDoorAve
import Derived.WalkKit
import Derived.Lib.Walk
import Derived.Lib.SliceRun
import Derived.Deep.LoopGhost
import Derived.Deep.Draws
import Derived.Shelf.RegionOpenPlain
import Derived.Laws.Cells
import Derived.Laws.IdiomCopy
set_option linter.unusedVariables false
set_option linter.unusedSimpArgs false
namespace Go.Proofs.YtbchncaolapbhaaGreatDoor
open Go.RowKit Go.Lib Go.Bv
theorem df_run_load (P : Program) (W : World) (a : Addr) (cs : List Value) (k : Nat) (hk : cs.length = k) (h : ∀ j v, cs[j]? = some v → W.cell? (a.add j) = some v) :
    Sem.run P (loadCellsFrom a 0 k #[]) W = .ok cs.toArray W := by
  have := run_loadCells_list (P := P) (w := W) a cs h
  rw [hk] at this
  simpa [loadCells] using this
theorem df_run_clear {P : Program} (w : World) (t e ty : TypeId) (zs : Array Value) (k : Nat) (hz : zs.size = k) (ht : P.underlying t = some (.slice e)) (hv : ∀ w, (zeroValue e).run P w = .ok (.agg zs) w) (h1 : ∀ v ∈ zs.toList, v.oneCell' = true) (b o n c : Nat) (hn : 0 < n)
    (hc : ∀ j, j < n * k → (w.cell? ⟨b, o + j, none⟩).isSome = true) (hf : ∀ j, j < n * k → w.frozen? ⟨b, o + j, none⟩ = false) :
    (Builtin.clear_ #[t] ty #[.slice (some ⟨b, o, none⟩) n c]).run P w = .ok (.tuple #[]) (w.setCells b o (Builtin.zeroCells zs n).toList) ∧ (Builtin.zeroCells zs n).toList.length = n * k := by
  have hl : (Builtin.zeroCells zs n).toList.length = n * k := by simp [Builtin.zeroCells, hz]
  have hm : ∀ v ∈ (Builtin.zeroCells zs n).toList, v.oneCell' = true := by
    intro v hv
    have hv : v ∈ (Array.range (n * zs.size)).map (fun i => zs[i % zs.size]!) := Array.mem_toList_iff.1 hv
    obtain ⟨i, hi, rfl⟩ := Array.mem_map.1 hv
    have hi : i < n * zs.size := by simpa using hi
    have hlt : i % zs.size < zs.size := Nat.mod_lt _ (by
      rcases Nat.eq_zero_or_pos zs.size with h | h
      · rw [h] at hi; omega
      · exact h)
    rw [getElem!_pos zs _ hlt]
    exact h1 _ (by simp)
  have hst := run_storeCells_cells (P := P) b o (Builtin.zeroCells zs n).toList 0 w (by rw [hl]; simpa using hc) (by rw [hl]; simpa using hf) hm
  simp only [Nat.add_zero] at hst
  refine ⟨?_, hl⟩
  obtain ⟨m, rfl⟩ : ∃ m, n = m + 1 := ⟨n - 1, by omega⟩
  simp [Builtin.clear_, run_underlying ht, hv, Value.cells, hst]
theorem df_first (p : Nat → Bool) : ∀ n, (∀ j, j < n → p j = false) ∨ ∃ m, m < n ∧ p m = true ∧ ∀ j, j < m → p j = false
  | 0 => .inl fun j hj => absurd hj (Nat.not_lt_zero _)
  | n + 1 => by
    rcases df_first p n with h | ⟨m, h1, h2, h3⟩
    · cases q : p n with
      | true => exact .inr ⟨n, Nat.lt_succ_self _, q, h⟩
      | false =>
        refine .inl fun j hj => ?_
        rcases Nat.lt_or_ge j n with h' | h'
        · exact h j h'
        · have : j = n := by omega
          rw [this]; exact q
    · exact .inr ⟨m, by omega, h2, h3⟩
theorem df_cell {w : World} {b : Nat} {cs : List Value} {e : TypeId} {z : Nat × Nat} (h : w.heap[b]? = some (.cells cs.toArray e z)) (j : Nat) : w.cell? ⟨b, j, none⟩ = cs[j]? := by
  rw [cell_row h]; simp
theorem df_frz {w : World} {b : Nat} {cs : Array Value} {e : TypeId} (h : w.heap[b]? = some (.cells cs e (0, 0))) (j : Nat) : w.frozen? ⟨b, j, none⟩ = false := by simp [World.frozen?, h]
theorem fr_trans0 {Z : Nat → Prop} {w w1 w2 : World} (h : Fr Z w w1) (g : Fr (fun _ => False) w1 w2) : Fr Z w w2 := fr_trans h (g.wide (fun _ _ h => h.elim))
set_option maxHeartbeats 4000000 in
set_option maxRecDepth 1000000 in
theorem df_index {P : Program} {k : Nat} {e : TypeId} (FG : P.funcs[66]? = some Tryz.f66) (mixed : P.follows .mixedOrders = true)
    (t27 : P.underlying 31 = some (.slice 43)) (u27 : ∀ w, (underlying 31).run P w = .ok (.slice 43) w) (aE : ∀ w, (isAgg 43).run P w = .ok true w) (zE : ∀ w, (Go.sizeOf 43).run P w = .ok k w)
    (t3 : P.underlying 3 = some (.int .i64)) (u3 : ∀ w, (underlying 3).run P w = .ok (.int .i64) w) (a3 : ∀ w, (isAgg 3).run P w = .ok false w) (z3 : ∀ w, (Go.sizeOf 3).run P w = .ok 1 w) (v3 : ∀ w, (zeroValue 3).run P w = .ok (.int .i64 0) w)
    (b n c g : Nat) (lb : Array Value) (us rest : List Value) (p : Nat → Bool) (res : Int) (w : World)
    (hrow : w.heap[b]? = some (.cells (us ++ rest).toArray e (0, 0))) (hul : us.length = n * k) (hn : n ≤ 9223372036854775807) (eg : ∀ args w, (callFunc g args).run P w = .ok (.enter g args) w)
    (hp : ∀ (W : World) (j : Nat), j < n → Fr (fun x => x = b) w W → Calls P g (#[.agg ((us.drop (j * k)).take k).toArray] ++ lb) W fun e w' => e = .returned (.bool (p j)) ∧ Fr (fun _ => False) W w')
    (hres : (res = -1 ∧ ∀ j, j < n → p j = false) ∨ ∃ m : Nat, m < n ∧ res = m ∧ p m = true ∧ ∀ j, j < m → p j = false) :
    Calls P 66 #[.slice (some ⟨b, 0, none⟩) n c, .func (.func g) #[] lb] w fun e w' => e = .returned (.int .i64 res) ∧ Fr (fun _ => False) w w' := by
  have hrun : ∀ (W : World), Fr (fun _ => False) w W → ∀ j, j < n → Sem.run P (loadCellsFrom ⟨b, j * k, none⟩ 0 k #[]) W = .ok ((us.drop (j * k)).take k).toArray W := fun W hW j hj => by
    have hb : b < w.heap.size := (Array.getElem?_eq_some_iff.1 hrow).1
    have hr := (hW.block b hb id).trans hrow
    have hle : j * k + k ≤ n * k := by
      have := Nat.mul_le_mul_right k (show j + 1 ≤ n from hj)
      rwa [Nat.add_mul, Nat.one_mul] at this
    refine df_run_load P W _ _ k (by rw [List.length_take, List.length_drop]; omega) (fun i v hi => ?_)
    rw [add_lit, df_cell hr]
    rw [List.getElem?_take] at hi
    split at hi
    · rw [List.getElem?_drop] at hi
      rw [List.getElem?_append_left (List.getElem?_eq_some_iff.1 hi).1]
      exact hi
    · cases hi
  clear hrow
  go_enter FG, Tryz.ntmps66
  go_wp2
  go_loopg [5, 8] n (fun gg _ s8 wr => ∃ kk : Nat, kk ≤ n ∧ n - kk ≤ gg ∧ s8 = .int .i64 kk ∧ Aside (Fr (fun _ => False) w wr) ∧ Aside (∀ j, j < kk → p j = false))
  case atStart => exact ⟨0, Nat.zero_le _, by omega, rfl, Fr.refl _ w, fun j hj => absurd hj (Nat.not_lt_zero _)⟩
  case round =>
    obtain ⟨kk, hkk, hg, rfl, BW, A⟩ := hrel
    by_cases hlt : kk < n
    · have hltz : (kk : Int) < (n : Int) := by omega
      have l2 := hrun wr BW.out kk hlt
      have hcall := hp wr kk hlt (BW.out.wide fun _ _ h => h.elim)
      have HR : Aside _ := hres
      clear hrun hp hres
      generalize ((us.drop (kk * k)).take k).toArray = y at l2 hcall
      cases hq : p kk with
      | true =>
        rw [hq] at hcall
        go_wp2_with (go_at_fn g; refine hcall.mono ?_; rintro e w' ⟨rfl, hb'⟩)
        go_ret
        refine ⟨?_, fr_trans0 BW.out hb'⟩
        rcases HR.out with ⟨_, h⟩ | ⟨m, h1, rfl, h2, h3⟩
        · rw [h kk hlt] at hq; cases hq
        · have e1 : ¬ kk < m := fun h => by rw [h3 kk h] at hq; cases hq
          have e2 : ¬ m < kk := fun h => by rw [A.out m h] at h2; cases h2
          have : kk = m := by omega
          rw [this]
          rfl
      | false =>
        rw [hq] at hcall
        go_wp2_with (go_at_fn g; refine hcall.mono ?_; rintro e w' ⟨rfl, hb'⟩)
        go_roundg (n - (kk + 1))
        case measure => omega
        case rel =>
          refine ⟨kk + 1, by omega, by omega, by go_num, fr_trans0 BW.out hb', (show Aside _ from fun j hj => ?_)⟩
          by_cases e : j = kk
          · rw [e]; exact hq
          · exact A.out j (by omega)
    · have hltz : ¬ (kk : Int) < (n : Int) := by omega
      have : kk = n := by omega
      subst this
      have HR : Aside _ := hres
      clear hrun hp hres
      go_wp2
      go_ret
      refine ⟨?_, BW.out⟩
      rcases HR.out with ⟨h, _⟩ | ⟨m, h1, _, h2, _⟩
      · rw [h]; rfl
      · rw [A.out m h1] at h2; cases h2
/-- What the row holds while it is gone through. -/
theorem df_keep {w3 : World} {b k n i j : Nat} {us rest : List Value} {p : Nat → Bool} {e : TypeId} (hul : us.length = n * k) (hj : j < n) (hij : i < j) (hi : i = keptN p j) (hq : p j = false)
    (hr : w3.heap[b]? = some (.cells (keptL p k us j ++ (us ++ rest).drop (i * k)).toArray e (0, 0))) :
    (w3.setCells b (i * k) ((us.drop (j * k)).take k)).heap[b]? = some (.cells (keptL p k us (j + 1) ++ (us ++ rest).drop ((i + 1) * k)).toArray e (0, 0)) := by
  have hle : j * k + k ≤ n * k := by
    have := Nat.mul_le_mul_right k (show j + 1 ≤ n from hj)
    rwa [Nat.add_mul, Nat.one_mul] at this
  have hik : i * k + k ≤ j * k := by
    have := Nat.mul_le_mul_right k (show i + 1 ≤ j from hij)
    rwa [Nat.add_mul, Nat.one_mul] at this
  have hkl : (keptL p k us j).length = i * k := by rw [hi]; exact keptL_len _ _ _ _ (by omega)
  have hcl : ((us.drop (j * k)).take k).length = k := by rw [List.length_take, List.length_drop]; omega
  rw [setCells_obj _ _ hr, List.toList_toArray, updL_eq _ _ _ (by rw [hcl, List.length_append, hkl, List.length_drop, List.length_append]; omega), List.take_left' hkl, hcl, ← List.drop_drop, List.drop_left' hkl, List.drop_drop, keptL, if_neg (by rw [hq]; decide), Nat.add_mul, Nat.one_mul]
set_option maxHeartbeats 8000000 in
set_option maxRecDepth 1000000 in
theorem df_go {P : Program} {k : Nat} (hk0 : 0 < k) (zs : Array Value) (hzs : zs.size = k) (h1z : ∀ v ∈ zs.toList, v.oneCell' = true) (FG : P.funcs[66]? = some Tryz.f66) (FD : P.funcs[38]? = some Tryz.f38) (eI : ∀ args w, (callFunc 66 args).run P w = .ok (.enter 66 args) w) (mixed : P.follows .mixedOrders = true)
    (t27 : P.underlying 31 = some (.slice 43)) (u27 : ∀ w, (underlying 31).run P w = .ok (.slice 43) w) (aT : ∀ w, (isAgg 31).run P w = .ok false w) (aE : ∀ w, (isAgg 43).run P w = .ok true w) (zE : ∀ w, (Go.sizeOf 43).run P w = .ok k w) (vE : ∀ w, (zeroValue 43).run P w = .ok (.agg zs) w)
    (t3 : P.underlying 3 = some (.int .i64)) (u3 : ∀ w, (underlying 3).run P w = .ok (.int .i64) w) (a3 : ∀ w, (isAgg 3).run P w = .ok false w) (z3 : ∀ w, (Go.sizeOf 3).run P w = .ok 1 w) (v3 : ∀ w, (zeroValue 3).run P w = .ok (.int .i64 0) w)
    (t4 : P.underlying 4 = some .bool) (u4 : ∀ w, (underlying 4).run P w = .ok .bool w) (a4 : ∀ w, (isAgg 4).run P w = .ok false w)
    (b n c g : Nat) (lb : Array Value) (us rest : List Value) (p : Nat → Bool) (w : World)
    (hrow : w.heap[b]? = some (.cells (us ++ rest).toArray 43 (0, 0))) (hul : us.length = n * k) (hnc : n ≤ c) (hcm : c ≤ maxLen) (hcl : (us ++ rest).length = c * k) (h1 : ∀ v ∈ us, v.oneCell' = true) (eg : ∀ args w, (callFunc g args).run P w = .ok (.enter g args) w)
    (hp : ∀ (W : World) (j : Nat), j < n → Fr (fun x => x = b) w W → Calls P g (#[.agg ((us.drop (j * k)).take k).toArray] ++ lb) W fun e w' => e = .returned (.bool (p j)) ∧ Fr (fun _ => False) W w') :
    Calls P 38 #[.slice (some ⟨b, 0, none⟩) n c, .func (.func g) #[] lb] w fun e' w' => e' = .returned (.slice (some ⟨b, 0, none⟩) (keptN p n) c) ∧ Fr (fun x => x = b) w w' ∧ ∃ rest', w'.heap[b]? = some (.cells (keptL p k us n ++ rest').toArray 43 (0, 0)) ∧ (keptL p k us n ++ rest').length = c * k := by
  have hn63 : n ≤ 9223372036854775807 := Nat.le_trans hnc (Nat.le_trans hcm (by unfold maxLen; omega))
  rcases df_first p n with hall | ⟨m, hm, hpm, hlow⟩
  · have hIF := df_index FG mixed t27 u27 aE zE t3 u3 a3 z3 v3 b n c g lb us rest p (-1) w hrow hul hn63 eg hp (.inl ⟨rfl, hall⟩)
    obtain ⟨hk1, hk2⟩ := keptL_all (p := p) (k := k) (us := us) n hall
    rw [hk1, hk2, ← hul, List.take_length]
    have HH : Aside _ := hrow
    have HC : Aside _ := hcl
    clear hp hrow hcl h1 hall hk1 hk2
    go_enter FD, Tryz.ntmps38
    go_wp2_with (go_at_fn 66; refine hIF.mono ?_; rintro e w' ⟨rfl, hf⟩)
    go_ret
    have hb : b < w.heap.size := (Array.getElem?_eq_some_iff.1 HH.out).1
    exact ⟨rfl, hf.wide (fun _ _ h => h.elim), rest, (hf.block b hb id).trans HH.out, HC.out⟩
  · have hIF := df_index FG mixed t27 u27 aE zE t3 u3 a3 z3 v3 b n c g lb us rest p m w hrow hul hn63 eg hp (.inr ⟨m, hm, rfl, hpm, hlow⟩)
    have hne1 : ((m : Int) == -1) = false := beq_eq_false_iff_ne.2 (by omega)
    have hw1 : IntKind.i64.wrap ((m : Int) + 1) = (m : Int) + 1 := by rw [IntKind.wrap_i64]; omega
    have HP : Aside _ := hp
    have HH : Aside _ := hrow
    have HC : Aside _ := hcl
    have HU : Aside _ := hul
    have H1 : Aside _ := h1
    have HL : Aside _ := hlow
    have HM : Aside _ := hpm
    have HK : Aside _ := hk0
    have HZ : Aside _ := And.intro hzs h1z
    clear hp hrow hcl hul h1 hlow hpm hk0 hzs h1z
    go_enter FD, Tryz.ntmps38
    go_wp2_with (go_at_fn 66; refine hIF.mono ?_; rintro e w' ⟨rfl, hf⟩)
    go_loopg [5, 6, 7] n (fun gg s5 s6 _ wr => ∃ (i j : Nat), s5 = .int .i64 i ∧ s6 = .int .i64 j ∧ j ≤ n ∧ n - j ≤ gg ∧ i < j ∧ Aside (i = keptN p j ∧ Fr (fun x => x = b) w wr ∧ wr.heap[b]? = some (.cells (keptL p k us j ++ (us ++ rest).drop (i * k)).toArray 43 (0, 0))))
    case atStart =>
      obtain ⟨q1, q2⟩ := keptL_all (p := p) (k := k) (us := us) m HL.out
      have hb : b < w.heap.size := (Array.getElem?_eq_some_iff.1 HH.out).1
      have hmk : m * k ≤ us.length := by rw [HU.out]; exact Nat.mul_le_mul_right k (by omega)
      refine ⟨m, m + 1, rfl, by go_num, by omega, by omega, by omega, ?_, hf.wide (fun _ _ h => h.elim), ?_⟩
      · rw [keptN, if_pos HM.out, q2]; rfl
      · rw [keptL, if_pos HM.out, q1, List.append_nil, ← List.take_append_of_le_length (l₂ := rest) hmk, List.take_append_drop]
        exact (hf.block b hb id).trans HH.out
    case round =>
      obtain ⟨i, j, rfl, rfl, hjn, hgg, hij, A⟩ := hrel
      have hin : i ≤ n := by omega
      by_cases hlt : j < n
      · have hltz : (j : Int) < (n : Int) := by omega
        have hiz : (i : Int) < (n : Int) := by omega
        have hwj : IntKind.i64.wrap ((j : Int) + 1) = (j : Int) + 1 := by rw [IntKind.wrap_i64]; omega
        have hwi : IntKind.i64.wrap ((i : Int) + 1) = (i : Int) + 1 := by rw [IntKind.wrap_i64]; omega
        obtain ⟨hi, hF, hr⟩ := A.out
        have hul := HU.out
        have hle : j * k + k ≤ n * k := by
          have := Nat.mul_le_mul_right k (show j + 1 ≤ n from hlt)
          rwa [Nat.add_mul, Nat.one_mul] at this
        have hik : i * k + k ≤ j * k := by
          have := Nat.mul_le_mul_right k (show i + 1 ≤ j from hij)
          rwa [Nat.add_mul, Nat.one_mul] at this
        have hkl : (keptL p k us j).length = i * k := by rw [hi]; exact keptL_len _ _ _ _ (by omega)
        obtain ⟨ch, hch⟩ : ∃ ch, ch = (us.drop (j * k)).take k := ⟨_, rfl⟩
        have hcl : ch.length = k := by rw [hch, List.length_take, List.length_drop]; omega
        have h1c : ∀ v ∈ ch, v.oneCell' = true := fun v hv => H1.out v (by rw [hch] at hv; exact List.mem_of_mem_drop (List.mem_of_mem_take hv))
        have hbw : b < wr.heap.size := (Array.getElem?_eq_some_iff.1 hr).1
        have hcell : ∀ t v, ch[t]? = some v → wr.cell? ⟨b, j * k + t, none⟩ = some v := fun t v ht => by
          rw [df_cell hr, List.getElem?_append_right (by rw [hkl]; omega), List.getElem?_drop, hkl]
          rw [hch, List.getElem?_take] at ht
          split at ht
          · rw [List.getElem?_drop] at ht
            rw [show i * k + (j * k + t - i * k) = j * k + t by omega, List.getElem?_append_left (List.getElem?_eq_some_iff.1 ht).1]
            exact ht
          · cases ht
        have l1 : Sem.run P (loadCellsFrom ⟨b, j * k, none⟩ 0 k #[]) wr = .ok ch.toArray wr := df_run_load P wr _ ch k hcl (fun t v ht => by rw [add_lit]; exact hcell t v ht)
        obtain ⟨W1, hW1⟩ : ∃ W1, W1 = wr.alloc (.cells zs 43) := ⟨_, rfl⟩
        have hN : W1.heap[wr.heap.size]? = some (.cells zs 43 (0, 0)) := by rw [hW1]; exact Array.getElem?_push_size
        have F1 : Fr (fun _ => False) wr W1 := by rw [hW1]; exact fr_alloc _ _
        have st1 : Sem.run P (storeCells ⟨wr.heap.size, 0, none⟩ ch 0) W1 = .ok () (W1.setCells wr.heap.size 0 ch) := by
          have := run_storeCells_cells (P := P) wr.heap.size 0 ch 0 W1 (fun t ht => by
            rw [show (0 : Nat) + 0 + t = t by omega, cell_row hN, Array.getElem?_eq_getElem (by rw [HZ.out.1]; omega)]; rfl) (fun t _ => df_frz hN _) h1c
          exact this
        obtain ⟨W2, hW2⟩ : ∃ W2, W2 = W1.setCells wr.heap.size 0 ch := ⟨_, rfl⟩
        rw [← hW2] at st1
        have hN2 : W2.heap[wr.heap.size]? = some (.cells ch.toArray 43 (0, 0)) := by
          rw [hW2, setCells_obj _ _ hN, updL_eq _ _ _ (by rw [hcl, Array.length_toList, HZ.out.1]; omega)]
          rw [List.take_zero, List.nil_append, Nat.zero_add, hcl, List.drop_of_length_le (by rw [Array.length_toList, HZ.out.1]; exact Nat.le_refl _), List.append_nil]
        have F2 : Fr (fun _ => False) wr W2 := by
          rw [hW2]
          exact ⟨(setCells_rest _ _ _ _).1.trans F1.os, (setCells_rest _ _ _ _).2.1.trans F1.tape, (setCells_rest _ _ _ _).2.2.trans F1.output, by rw [setCells_size]; exact F1.size, fun x hx _ => (setCells_ne (by omega) _ _ _).trans (F1.block x hx id)⟩
        have lN : ∀ W, Fr (fun _ => False) W2 W → Sem.run P (loadCellsFrom ⟨wr.heap.size, 0, none⟩ 0 k #[]) W = .ok ch.toArray W := fun W hW => by
          have hn2 : wr.heap.size < W2.heap.size := (Array.getElem?_eq_some_iff.1 hN2).1
          have hr2 := (hW.block _ hn2 id).trans hN2
          exact df_run_load P W _ ch k hcl (fun t v ht => by rw [add_lit, Nat.zero_add, df_cell hr2]; exact ht)
        have l2 := lN W2 (Fr.refl _ _)
        have hcall := HP.out W2 j hlt (fr_trans0 hF F2)
        rw [← hch] at hcall
        have hst : ∀ W, Fr (fun _ => False) W2 W → Sem.run P (storeCells ⟨b, i * k, none⟩ ch 0) W = .ok () (W.setCells b (i * k) ch) := fun W hW => by
          have hr3 : W.heap[b]? = _ := (hW.block b (Nat.lt_of_lt_of_le hbw F2.size) id).trans ((F2.block b hbw id).trans hr)
          have := run_storeCells_cells (P := P) b (i * k) ch 0 W (fun t ht => by
            rw [df_cell hr3, List.getElem?_eq_getElem (by rw [List.length_append, hkl, List.length_drop, List.length_append]; omega)]; rfl) (fun t _ => df_frz hr3 _) h1c
          exact this
        have hst2 : Aside _ := hst
        have lN2 : Aside _ := lN
        have K1 : Aside _ := hkl
        have HN2 : Aside (W2 = W1.setCells wr.heap.size 0 ch ∧ W1 = wr.alloc (.cells zs 43)) := ⟨hW2, hW1⟩
        have FF : Aside (Fr (fun _ => False) wr W2) := F2
        have HCH : Aside _ := hch
        have HB : Aside _ := hbw
        have hal : wr.alloc (.cells zs 43) = W1 := hW1.symm
        clear hst lN hkl hW1 hW2 hN hN2 F1 F2 hch hcell h1c hF hr hle hik hul hbw hi
        cases hq : p j with
        | false =>
          rw [hq] at hcall
          go_wp2_with (go_at_fn g; refine hcall.mono ?_; rintro e w3 ⟨rfl, hf3⟩; have l3 := Aside.out lN2 w3 hf3; have st3 := Aside.out hst2 w3 hf3)
          go_roundg (n - (j + 1))
          case measure => omega
          case rel =>
            obtain ⟨hi, hF, hr⟩ := A.out
            have hbw := HB.out
            have hr3 : w3.heap[b]? = _ := (hf3.block b (Nat.lt_of_lt_of_le hbw FF.out.size) id).trans ((FF.out.block b hbw id).trans hr)
            refine ⟨i + 1, j + 1, by go_num, by go_num, by omega, Nat.le_refl _, by omega, ?_, ?_, ?_⟩
            · rw [keptN, hq, hi]; rfl
            · exact fr_trans (fr_trans0 hF (fr_trans0 FF.out hf3)) (fr_setCells (.inl rfl) _ _ _)
            · rw [HCH.out]
              exact df_keep HU.out hlt hij hi hq hr3
        | true =>
          rw [hq] at hcall
          go_wp2_with (go_at_fn g; refine hcall.mono ?_; rintro e w3 ⟨rfl, hf3⟩)
          go_roundg (n - (j + 1))
          case measure => omega
          case rel =>
            obtain ⟨hi, hF, hr⟩ := A.out
            have hbw := HB.out
            have hr3 : w3.heap[b]? = _ := (hf3.block b (Nat.lt_of_lt_of_le hbw FF.out.size) id).trans ((FF.out.block b hbw id).trans hr)
            refine ⟨i, j + 1, rfl, by go_num, by omega, Nat.le_refl _, by omega, ?_, fr_trans0 hF (fr_trans0 FF.out hf3), ?_⟩
            · rw [keptN, if_pos hq, hi]; rfl
            · rw [keptL, if_pos hq, List.append_nil]; exact hr3
      · obtain rfl : j = n := by omega
        have hltz : ¬ (j : Int) < (j : Int) := by omega
        obtain ⟨hi, hF, hr⟩ := A.out
        have hul := HU.out
        have hcl := HC.out
        have hik : i * k ≤ j * k := Nat.mul_le_mul_right k (by omega)
        have hck : j * k ≤ c * k := Nat.mul_le_mul_right k hnc
        have hkl : (keptL p k us j).length = i * k := by rw [hi]; exact keptL_len _ _ _ _ (by omega)
        have hsub : (j - i) * k = j * k - i * k := Nat.sub_mul _ _ _
        have hclr := fun ty => df_run_clear wr 31 43 ty zs k HZ.out.1 t27 vE HZ.out.2 b (i * k) (j - i) (c - i) (by omega) (fun t ht => by
            rw [df_cell hr, List.getElem?_eq_getElem (by rw [List.length_append, hkl, List.length_drop]; omega)]; rfl) (fun t _ => df_frz hr _)
        have hzl := (hclr 0).2
        have hclr := fun ty => (hclr ty).1
        have HZL : Aside _ := hzl
        have HKL : Aside _ := hkl
        have hci : ¬ (c = i) := by omega
        have hiz : (i : Int) ≤ (j : Int) := by omega
        have HI : Aside _ := And.intro hF hr
        have HI2 : Aside _ := hi
        have HS : Aside _ := And.intro hsub (And.intro hik hck)
        clear hzl hkl hF hr hul hcl hik hck hsub hi
        go_wp2
        go_ret
        obtain ⟨hF, hr⟩ := HI.out
        obtain ⟨hsub, hik, hck⟩ := HS.out
        have hkl := HKL.out
        have hcl := HC.out
        refine ⟨by rw [← HI2.out]; rfl, fr_trans hF (fr_setCells (.inl rfl) _ _ _), (Builtin.zeroCells zs (j - i)).toList ++ (us ++ rest).drop (i * k + (Builtin.zeroCells zs (j - i)).toList.length), ?_, ?_⟩
        · rw [setCells_obj _ _ hr, List.toList_toArray, updL_eq _ _ _ (by rw [HZL.out, List.length_append, hkl, List.length_drop]; omega), List.take_left' hkl, ← List.drop_drop, List.drop_left' hkl, List.drop_drop]
          rw [List.append_assoc]
        · have hzz : (Builtin.zeroCells zs (j - i)).toList.length = (j - i) * k := HZL.out
          simp only [List.length_append, hkl, List.length_drop, hzz] at hcl ⊢; omega
set_option maxHeartbeats 4000000 in
set_option maxRecDepth 1000000 in
theorem df_nil (g : Nat) (lb : Array Value) (w : World) : Calls Tryz.prog 38 #[.slice none 0 0, .func (.func g) #[] lb] w fun e w' => e = .returned (.slice none 0 0) ∧ Fr (fun _ => False) w w' := by
  have hI : Calls Tryz.prog 66 #[.slice none 0 0, .func (.func g) #[] lb] w fun e w' => e = .returned (.int .i64 (-1)) ∧ w' = w := by
    go_enter Tryz.func66, Tryz.ntmps66
    go_wp2
    go_loopg [5, 8] 0 (fun _ _ s8 wr => s8 = .int .i64 0 ∧ wr = w)
    case atStart => exact ⟨rfl, rfl⟩
    case round =>
      obtain ⟨rfl, rfl⟩ := hrel
      go_wp2
      go_ret
      exact ⟨rfl, rfl⟩
  go_enter Tryz.func38, Tryz.ntmps38
  go_wp2_with (go_at_call 66; refine hI.mono ?_; rintro e w' ⟨rfl, rfl⟩)
  go_ret
  exact ⟨rfl, Fr.refl _ _⟩
theorem df_roads : DfRoads Tryz.prog 38 9 43 := ⟨fun b n c g lb us rest p w h1 h2 h3 h4 h5 h6 h7 h8 =>
  df_go (by decide) #[.int .i64 0, .string ⟨#[]⟩, .int .i64 0, .slice none 0 0, .int .i64 0, .string ⟨#[]⟩, .int .i64 0, .slice none 0 0, .string ⟨#[]⟩] (by decide) (by decide) Tryz.func66 Tryz.func38 (fun args w => Tryz.call66 args w) (by kernel_rfl) Tryz.underlying31 Tryz.runUnderlying31 Tryz.isAgg31 Tryz.isAgg43 Tryz.sizeOf43 Tryz.zeroValue43
    Tryz.underlying3 Tryz.runUnderlying3 Tryz.isAgg3 Tryz.sizeOf3 Tryz.zeroValue3 Tryz.underlying4 Tryz.runUnderlying4 Tryz.isAgg4 b n c g lb us rest p w h1 h2 h3 h4 h5 h6 h7 h8, df_nil⟩
end Go.Proofs.YtbchncaolapbhaaGreatDoor

/- slices.Delete, walked. -/
import Derived.Test.YtjaaacbiaimdlaaGreatDoorProg
import Derived.Test.YtjaaacbiaimdlaaGreatDoorAve
import Derived.WalkKit
import Derived.Lib.Walk
import Derived.Lib.SliceRun
import Derived.Deep.LoopGhost
import Derived.Deep.RegionLaw
import Derived.Shelf.RegionOpenPlain
import Derived.Laws.Cells
import Derived.Laws.IdiomCopy
set_option linter.unusedVariables false
set_option linter.unusedSimpArgs false
namespace Go.Proofs.YtjaaacbiaimdlaaGreatDoor
open Go.RowKit Go.Lib Go.Bv
theorem Zyb {P : Program} (w : World) (t e ty : TypeId) (zs : Array Value) (k : Nat) (hz : zs.size = k) (ht : P.underlying t = some (.slice e)) (hv : ∀ w, (zeroValue e).run P w = .ok (.agg zs) w) (h1 : ∀ v ∈ zs.toList, v.oneCell' = true) (b o n c : Nat) (hn : 0 < n)
  (hc : ∀ j, j < n * k → (w.cell? ⟨b, o + j, none⟩).isSome = true) (hf : ∀ j, j < n * k → w.frozen? ⟨b, o + j, none⟩ = false) :
  (Builtin.clear_ #[t] ty #[.slice (some ⟨b, o, none⟩) n c]).run P w = .ok (.tuple #[]) (w.setCells b o (Builtin.zeroCells zs n).toList) ∧ (Builtin.zeroCells zs n).toList.length = n * k := by
 have hl : (Builtin.zeroCells zs n).toList.length = n * k := by simp [Builtin.zeroCells, hz]
 have hm : ∀ v ∈ (Builtin.zeroCells zs n).toList, v.oneCell' = true := by
  intro v hv
  have hv : v ∈ (Array.range (n * zs.size)).map (fun i => zs[i % zs.size]!) := Array.mem_toList_iff.1 hv
  obtain ⟨i, hi, rfl⟩ := Array.mem_map.1 hv
  have hi : i < n * zs.size := by simpa using hi
  have hlt : i % zs.size < zs.size := Nat.mod_lt _ (by
   rcases Nat.eq_zero_or_pos zs.size with h | h
   ·rw [h] at hi; omega
   ·exact h)
  rw [getElem!_pos zs _ hlt]
  exact h1 _ (by simp)
 have hst := run_storeCells_cells (P := P) b o (Builtin.zeroCells zs n).toList 0 w (by rw [hl]; simpa using hc) (by rw [hl]; simpa using hf) hm
 simp only [Nat.add_zero] at hst
 refine ⟨?_, hl⟩
 obtain ⟨m, rfl⟩ : ∃ m, n = m + 1 := ⟨n - 1, by omega⟩
 simp [Builtin.clear_, run_underlying ht, hv, Value.cells, hst]
theorem Zw7 {w : World} {b : Nat} {cs : List Value} {e : TypeId} {z : Nat × Nat} (h : w.heap[b]? = some (.cells cs.toArray e z)) (j : Nat) : w.cell? ⟨b, j, none⟩ = cs[j]? := by
 rw [Z4u h]; simp
theorem Zzn {w : World} {b : Nat} {cs : Array Value} {e : TypeId} (h : w.heap[b]? = some (.cells cs e (0, 0))) (j : Nat) : w.frozen? ⟨b, j, none⟩ = false := by simp [World.frozen?, h]
set_option maxHeartbeats 8000000 in
set_option maxRecDepth 1000000 in
theorem Z13i {P : Program} {k : Nat} (zs : Array Value) (hzs : zs.size = k) (h1z : ∀ v ∈ zs.toList, v.oneCell' = true) (FG : P.funcs[127]? = some Tryz.f127) (mixed : P.follows .mixedOrders = true) (i0 : TypeInfo) (hi0 : P.info? 63 = some i0) (hz1 : i0.size = k)
    (t27 : P.underlying 24 = some (.slice 63)) (u27 : ∀ w, (underlying 24).run P w = .ok (.slice 63) w) (aT : ∀ w, (isAgg 24).run P w = .ok false w) (zT : ∀ w, (Go.sizeOf 24).run P w = .ok 1 w) (vT : ∀ w, (zeroValue 24).run P w = .ok (.slice none 0 0) w) (aE : ∀ w, (isAgg 63).run P w = .ok true w) (zE : ∀ w, (Go.sizeOf 63).run P w = .ok k w) (vE : ∀ w, (zeroValue 63).run P w = .ok (.agg zs) w)
    (t3 : P.underlying 3 = some (.int .i64)) (u3 : ∀ w, (underlying 3).run P w = .ok (.int .i64) w) (a3 : ∀ w, (isAgg 3).run P w = .ok false w) (z3 : ∀ w, (Go.sizeOf 3).run P w = .ok 1 w) (v3 : ∀ w, (zeroValue 3).run P w = .ok (.int .i64 0) w)
    (t4 : P.underlying 4 = some .bool) (u4 : ∀ w, (underlying 4).run P w = .ok .bool w) (a4 : ∀ w, (isAgg 4).run P w = .ok false w)
    (b n c i j : Nat) (us rest : List Value) (w : World)
    (hrow : w.heap[b]? = some (.cells (us ++ rest).toArray 63 (0, 0))) (hul : us.length = n * k) (hnc : n ≤ c) (hcm : c ≤ maxLen) (hcl : (us ++ rest).length = c * k) (h1 : ∀ v ∈ us, v.oneCell' = true) (hij : i < j) (hjn : j ≤ n) :
    Calls P 127 #[.slice (some ⟨b, 0, none⟩) n c, .int .i64 i, .int .i64 j] w fun e' w' => e' = .returned (.slice (some ⟨b, 0, none⟩) (i + (n - j)) c) ∧ Fr (fun x => x = b) w w' ∧
      ∃ rest', w'.heap[b]? = some (.cells (us.take (i * k) ++ us.drop (j * k) ++ rest').toArray 63 (0, 0)) ∧ (us.take (i * k) ++ us.drop (j * k) ++ rest').length = c * k := by
  have hc63 : c ≤ 9223372036854775807 := Nat.le_trans hcm (by unfold maxLen; omega)
  obtain ⟨news, hnews⟩ : ∃ news, news = us.drop (j * k) := ⟨_, rfl⟩
  have hjk : j * k ≤ n * k := Nat.mul_le_mul_right k hjn
  have hik : i * k ≤ j * k := Nat.mul_le_mul_right k (Nat.le_of_lt hij)
  have hck : n * k ≤ c * k := Nat.mul_le_mul_right k hnc
  have hlen : news.length = (n - j) * k := by rw [hnews, List.length_drop, hul, Nat.sub_mul]
  have hnj : (n - j) * k = n * k - j * k := Nat.sub_mul _ _ _
  have hji : (j - i) * k = j * k - i * k := Nat.sub_mul _ _ _
  have hsn : (i + (n - j)) * k = i * k + (n * k - j * k) := by rw [Nat.add_mul, hnj]
  have hcell : ∀ t v, (us ++ rest)[t]? = some v → w.drew.cell? ⟨b, t, none⟩ = some v := fun t v h => (Zw7 (w := w.drew) hrow t).trans h
  have hlt : ∀ t, t < c * k → ∃ v, (us ++ rest)[t]? = some v := fun t ht => ⟨_, List.getElem?_eq_getElem (by rw [hcl]; exact ht)⟩
  obtain ⟨A, hA, hsrc⟩ : ∃ A : Addr, (if c = j then some (⟨b, 0, none⟩ : Addr) else some ⟨b, j * k, none⟩) = some A ∧ Hid (∀ t u, news[t]? = some u → w.drew.cell? (A.add t) = some u) := by
    by_cases h : c = j
    · refine ⟨⟨b, 0, none⟩, by simp [h], fun t u hu => ?_⟩
      have h0 : news.length = 0 := by rw [hlen, hnj]; have : n = j := by omega
                                      rw [this]; omega
      rw [List.length_eq_zero_iff.1 h0] at hu
      simp at hu
    · refine ⟨⟨b, j * k, none⟩, by simp [h], fun t u hu => ?_⟩
      rw [Addr.add_lit]
      refine hcell _ _ ?_
      rw [hnews, List.getElem?_drop] at hu
      rw [List.getElem?_append_left (List.getElem?_eq_some_iff.1 hu).1]
      exact hu
  have s1 : Hid (news.length = (n - j) * k) := hlen
  have s2 : Hid (∀ u ∈ news, u.oneCell' = true) := fun u hu => h1 u (by rw [hnews] at hu; exact List.mem_of_mem_drop hu)
  have s3 : Hid (∀ t, t < news.length → (w.drew.cell? ⟨b, 0 + i * k + t, none⟩).isSome = true ∧ w.drew.frozen? ⟨b, 0 + i * k + t, none⟩ = false) := by
    intro t ht
    rw [hlen] at ht
    obtain ⟨v, hv⟩ := hlt (0 + i * k + t) (by omega)
    exact ⟨by rw [hcell _ _ hv]; rfl, Zzn (w := w.drew) hrow _⟩
  obtain ⟨W1, hW1⟩ : ∃ W1, W1 = w.drew.setCells b (0 + i * k) news := ⟨_, rfl⟩
  have hr1 : W1.heap[b]? = some (.cells (us.take (i * k) ++ news ++ (us ++ rest).drop (i * k + (n - j) * k)).toArray 63 (0, 0)) := by
    rw [hW1, Nat.zero_add, Zd4 (w := w.drew) _ _ hrow, List.toList_toArray, Zq1 _ _ _ (by rw [hlen, hcl]; omega), hlen]
    rw [List.take_append_of_le_length (by rw [hul]; omega)]
  have htl : (us.take (i * k)).length = i * k := by rw [List.length_take, hul]; omega
  have hclr := fun ty => Zyb W1 24 63 ty zs k hzs t27 vE h1z b ((i + (n - j)) * k) (j - i) (c - (i + (n - j))) (by omega) (fun t ht => by
      rw [Zw7 hr1, List.getElem?_eq_getElem (by rw [List.length_append, List.length_append, htl, hlen, List.length_drop, hcl]; omega)]; rfl) (fun t _ => Zzn hr1 _)
  have hzl := (hclr 0).2
  have hclr := fun ty => (hclr ty).1
  have hjj : n - (i + (n - j)) = j - i := by omega
  have hX : Aside _ := And.intro hr1 (And.intro hzl (And.intro htl (And.intro hcl (And.intro hlen (And.intro hck (And.intro hjk (And.intro hik (And.intro hnj (And.intro hji hsn)))))))))
  have hW : Hid (W1 = w.drew.setCells b (0 + i * k) news) := hW1
  have hN : Aside (news = us.drop (j * k)) := hnews
  have hic : i ≤ c := by omega
  have hjc : j ≤ c := by omega
  have hne : ¬ ((i : Int) = (j : Int)) := by omega
  have hijz : (i : Int) ≤ (j : Int) := by omega
  have hin : i ≤ n := by omega
  have hci : ¬ (c = i + (n - j)) := by omega
  have hz2 : i + (n - j) ≤ n := by omega
  clear hW1 hr1 hzl htl hcl hlen hck hjk hik hnj hji hsn hcell hlt hrow hul h1 hnews hzs h1z
  go_enter FG, Tryz.ntmps127
  go_wp2_with fail
  go_region_law_o (refine step_append_room rfl (.tmp 22) (.tmp 25) 24 rfl 63 i0 k t27 hi0 hz1 b 0 i c (by simp [Act.eval, Act.put]) A (n - j) (c - j) news (by simp [Act.eval, Act.put]) s1.out hsrc.out s2.out (by omega) s3.out ?_; rw [← hW.out])
  go_wp2
  go_ret
  obtain ⟨hr1, hzl, htl, hcl, hlen, hck, hjk, hik, hnj, hji, hsn⟩ := hX.out
  refine ⟨rfl, Zsh (hW.out ▸ Zsh (Z10x w) (Zju (.inl rfl) _ _ _)) (Zju (.inl rfl) _ _ _), (Builtin.zeroCells zs (j - i)).toList ++ (us ++ rest).drop (n * k), ?_, ?_⟩
  · rw [Zd4 _ _ hr1, List.toList_toArray, Zq1 _ _ _ (by rw [hzl, List.length_append, List.length_append, htl, hlen, List.length_drop, hcl]; omega), List.take_left' (by rw [List.length_append, htl, hlen]; omega), ← List.drop_drop, List.drop_left' (by rw [List.length_append, htl, hlen]; omega), List.drop_drop, hzl, ← hN.out, show i * k + (n - j) * k + (j - i) * k = n * k by omega, List.append_assoc]
  · rw [List.length_append, List.length_append, List.length_append, htl, ← hN.out, hlen, hzl, List.length_drop, hcl]; omega
theorem Z115 : Zxa Tryz.prog 127 9 63 := fun b n c i j us rest w h1 h2 h3 h4 h5 h6 h7 h8 => by
 obtain ⟨i0, hi0, hzs⟩ := Option.map_eq_some_iff.1 (show (Tryz.prog.info? 63).map (·.size) = some 9 from by kernel_rfl)
 exact Z13i #[.int .i64 0, .string ⟨#[]⟩, .int .i64 0, .slice none 0 0, .int .i64 0, .string ⟨#[]⟩, .int .i64 0, .slice none 0 0, .string ⟨#[]⟩] (by decide) (by decide) Tryz.func127 (by kernel_rfl) i0 hi0 hzs Tryz.underlying24 Tryz.runUnderlying24 Tryz.isAgg24 Tryz.sizeOf24 Tryz.zeroValue24 Tryz.isAgg63 Tryz.sizeOf63 Tryz.zeroValue63
  Tryz.underlying3 Tryz.runUnderlying3 Tryz.isAgg3 Tryz.sizeOf3 Tryz.zeroValue3 Tryz.underlying4 Tryz.runUnderlying4 Tryz.isAgg4 b n c i j us rest w h1 h2 h3 h4 h5 h6 h7 h8
end Go.Proofs.YtjaaacbiaimdlaaGreatDoor

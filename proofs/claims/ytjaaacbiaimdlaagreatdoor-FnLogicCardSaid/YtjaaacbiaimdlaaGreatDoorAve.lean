/- Values of calls, told abstractly, with what is held: part 5. -/
import Derived.Test.YtjaaacbiaimdlaaGreatDoorAvd
import Derived.Shelf.Strconv.Itoa3
import Derived.Shelf.Small.Strs
import Derived.Shelf.Strings.OnBuilder
set_option linter.unusedVariables false
set_option linter.unusedSimpArgs false
namespace Go.Bv
open Go.RowKit
theorem Fr.grow {Z : Nat → Prop} (w : World) (k : Nat) (os : Array Obj) : Fr Z w (Sort.grow (w.drewN k) os) := by
 refine ⟨rfl, rfl, rfl, ?_, fun b hb _ => ?_⟩
 ·show w.heap.size ≤ (w.heap ++ os).size
  rw [Array.size_append]; omega
 ·show (w.heap ++ os)[b]? = w.heap[b]?
  rw [Array.getElem?_append_left hb]
theorem Z12d {P : Program} {f : Nat}
  (hc : ∀ (n : Int), -9223372036854775808 ≤ n → n ≤ 9223372036854775807 → ∀ w : World, Lib.TabIs P w tab10 .u64 Lib.pow10Tab →
   Calls P f #[.int .i64 n] w fun e w' => e = .returned (.string ⟨(Lib.itoa n).toArray⟩) ∧ ∃ k os, w' = Sort.grow (w.drewN k) os)
  (hg : ∃ g, P.globalNamed tab10 = some g) {n : Int} {r : ByteArray}
  (h : (if -9223372036854775808 ≤ n ∧ n ≤ 9223372036854775807 then some (⟨(Lib.itoa n).toArray⟩ : ByteArray) else none) = some r) :
  FnO P f [.v (.int .i64 n) []] (.v (.str r) []) [] := by
 obtain ⟨⟨h0, h1⟩, h⟩ := Z4 h
 obtain rfl := oInj h
 obtain ⟨g, hg⟩ := hg
 intro X w us lab hin hX hgt
 obtain ⟨u, r, rfl, h2, h3⟩ := hin
 have h3 : r = [] := h3
 subst h3
 have hu : u = .int .i64 n := h2.1
 subst hu
 refine (hc n h0 h1 w (hgt g hg).2.2).mono ?_
 rintro e w' ⟨rfl, k, os, rfl⟩
 have hf := Fr.grow (Z := fun b => ∃ q, lab b = some q) w k os
 exact ⟨_, X, lab, rfl, hf, fun b _ hl => ⟨rfl, hl⟩, fun b hb => hX b (Nat.le_trans hf.size hb), ⟨rfl, fun j oe hj => by cases hj⟩, fun i q hq => by cases hq⟩
end Go.Bv

namespace Go.Bv
open Go.RowKit
theorem Zqu {P : Program} {f : Nat} (hc : ∀ (s : ByteArray) (c : Int) (w : World), Calls P f #[.string s, .int .u8 c] w fun e w' => e = .returned (.int .i64 (Lib.indexByte s.data.toList c.toNat.toUInt8)) ∧ w' = w)
  {s : ByteArray} {c r : Int} (h : some (Lib.indexByte s.data.toList c.toNat.toUInt8) = some r) : FnO P f [.v (.str s) [], .v (.int .u8 c) []] (.v (.int .i64 r) []) [] := by
 obtain rfl := oInj h
 intro X w us lab hin hX hgt
 obtain ⟨u0, r0, rfl, ⟨h0, _⟩, u1, r1, rfl, ⟨h1, _⟩, h2⟩ := hin
 have h2 : r1 = [] := h2
 subst h2
 have h0 : u0 = .string s := h0
 have h1 : u1 = .int .u8 c := h1
 subst h0; subst h1
 refine Calls.mono (hc s c w) ?_
 rintro e w' ⟨rfl, rfl⟩
 exact ⟨_, X, lab, rfl, Fr.refl _ _, fun b _ hb => ⟨rfl, hb⟩, hX, ⟨rfl, fun j oe hj => by cases hj⟩, fun i q hq => by cases hq⟩
theorem Zo7 {X : Gh} {w : World} {b : Nat} : ∀ (xs : List ByteArray) (o : Nat), RelE X w 1 b o (xs.map fun s => [AV.str s]) → ∀ (j : Nat) x, xs[j]? = some x → w.cell? ⟨b, o + j, none⟩ = some (.string x)
 | [], _, _, j, x, hj => by simp at hj
 | s :: xs, o, ⟨_, h1, h2⟩, 0, x, hj => by
  obtain rfl : s = x := by simpa using hj
  obtain ⟨⟨u, hc, _, hu⟩, _⟩ := h1
  have hu : u = .string s := hu
  subst hu
  exact hc
 | s :: xs, o, ⟨_, h1, h2⟩, j + 1, x, hj => by
  have := Zo7 xs (o + 1) h2 j x (by simpa using hj)
  rwa [show o + 1 + j = o + (j + 1) by omega] at this
theorem Zy8 {Z : Nat → Prop} {w w' : World} (h : Below w.heap.size w w') : Fr Z w w' := ⟨h.os, h.tape, h.output, h.size, fun b hb _ => h.block b hb⟩
def Zcy (xs : List ByteArray) (sep : ByteArray) : ByteArray := ⟨(Lib.join (xs.map (·.data.toList)) sep.data.toList).toArray⟩
theorem Z12c {P : Program} {f : Nat}
  (h0 : ∀ (a : Option Addr) (c : Nat) (sep : ByteArray) (w : World), Calls P f #[.slice a 0 c, .string sep] w fun e w' => e = .returned (.string ⟨#[]⟩) ∧ w' = w)
  (h1 : ∀ (bk o c : Nat) (xs : List ByteArray) (sep : ByteArray) (w : World), (∀ (j : Nat) x, xs[j]? = some x → w.cell? ⟨bk, o + j, none⟩ = some (.string x)) → bk < w.heap.size → xs.length ≤ 140737488355328 → xs.length ≤ c →
   (Lib.join (xs.map (·.data.toList)) sep.data.toList).length ≤ 140737488355328 → Calls P f #[.slice (some ⟨bk, o, none⟩) xs.length c, .string sep] w fun e w' => e = .returned (.string ⟨(Lib.join (xs.map (·.data.toList)) sep.data.toList).toArray⟩) ∧ Below w.heap.size w w')
  {xs : List ByteArray} {sep r : ByteArray} (h : (if xs.length ≤ 1073741824 ∧ (Zcy xs sep).size ≤ 1073741824 then some (Zcy xs sep) else none) = some r) :
  FnO P f [.v (.sl (xs.map fun s => [AV.str s])) [], .v (.str sep) []] (.v (.str r) []) [] := by
 obtain ⟨⟨g1, g2⟩, h⟩ := Z4 h
 obtain rfl := oInj h
 intro X w us lab hin hX hgt
 obtain ⟨u0, r0, rfl, ⟨q0, _⟩, u1, r1, rfl, ⟨q1, _⟩, q2⟩ := hin
 have q2 : r1 = [] := q2
 subst q2
 have q1 : u1 = .string sep := q1
 subst q1
 obtain ⟨A, len, cap, rfl, hl, hc, hs⟩ := q0
 rw [List.length_map] at hl
 subst hl
 have fin : ∀ e w', e = Ending.returned (.string (Zcy xs sep)) → Below w.heap.size w w' → ∃ (u : Value) (X' : Gh) (lab' : Lab), e = .returned u ∧ Fr (fun b => ∃ q, lab b = some q) w w' ∧ (∀ b, b < w.heap.size → lab b = none → X' b = X b ∧ lab' b = none) ∧
   (∀ b, w'.heap.size ≤ b → X' b = none ∧ lab' b = none) ∧ AIn P X' w' lab' 0 (.v (.str (Zcy xs sep)) []) u ∧ ∀ i q, (i, q) ∈ ([] : List (Nat × AD)) → ∃ v, [Value.slice A xs.length cap, .string sep][i]? = some v ∧ AIn P X' w' lab' (i + 1) q v := by
  rintro e w' rfl hb
  exact ⟨_, X, lab, rfl, Zy8 hb, fun b _ hl => ⟨rfl, hl⟩, fun b h => hX b (Nat.le_trans hb.size h), ⟨rfl, fun j oe hj => by cases hj⟩, fun i q hq => by cases hq⟩
 cases xs with
 | nil =>
  refine Calls.mono (h0 A cap sep w) ?_
  rintro e w' ⟨rfl, rfl⟩
  exact fin _ _ rfl (Below.refl _ _)
 | cons x xs =>
  rcases hs with hs | ⟨b, o, sz, rfl, hr⟩
  ·cases hs
  have hsz : sz = 1 := hr.1.symm
  subst hsz
  have hcell := Zo7 (x :: xs) o hr
  have hb : b < w.heap.size := block_lt_of_cell (hcell 0 x rfl)
  refine Calls.mono (h1 b o cap (x :: xs) sep w hcell hb (by omega) hc ?_) ?_
  ·have : (Lib.join ((x :: xs).map (·.data.toList)) sep.data.toList).length = (Zcy (x :: xs) sep).size := by unfold Zcy; simp [ByteArray.size]
   omega
  ·rintro e w' ⟨rfl, hb⟩
   exact fin _ _ rfl hb
end Go.Bv

/- Values of calls, told abstractly, with what is held: part 4. -/
import Derived.Test.YthemaodhckmnkaaGreatDoorAvc
import Derived.Shelf.Strconv.Itoa3
set_option linter.unusedVariables false
set_option linter.unusedSimpArgs false
namespace Go.Bv
open Go.RowKit
theorem Fr.grow {Z : Nat → Prop} (w : World) (k : Nat) (os : Array Obj) : Fr Z w (Sort.grow (w.drewN k) os) := by
  refine ⟨rfl, rfl, rfl, ?_, fun b hb _ => ?_⟩
  · show w.heap.size ≤ (w.heap ++ os).size
    rw [Array.size_append]; omega
  · show (w.heap ++ os)[b]? = w.heap[b]?
    rw [Array.getElem?_append_left hb]
theorem itoa_O {P : Program} {f : Nat}
    (hc : ∀ (n : Int), -9223372036854775808 ≤ n → n ≤ 9223372036854775807 → ∀ w : World, Lib.TabIs P w tab10 .u64 Lib.pow10Tab →
      Calls P f #[.int .i64 n] w fun e w' => e = .returned (.string ⟨(Lib.itoa n).toArray⟩) ∧ ∃ k os, w' = Sort.grow (w.drewN k) os)
    (hg : ∃ g, P.globalNamed tab10 = some g) {n : Int} {r : ByteArray}
    (h : (if -9223372036854775808 ≤ n ∧ n ≤ 9223372036854775807 then some (⟨(Lib.itoa n).toArray⟩ : ByteArray) else none) = some r) :
    FnO P f [.v (.int .i64 n) []] (.v (.str r) []) [] := by
  obtain ⟨⟨h0, h1⟩, h⟩ := oguard h
  obtain rfl := Option.some.inj h
  obtain ⟨g, hg⟩ := hg
  intro X w us lab hin hX hgt
  obtain ⟨u, r, rfl, h2, h3⟩ := hin
  have h3 : r = [] := h3
  subst h3
  have hu : u = .int .i64 n := h2.1
  subst hu
  refine (hc n h0 h1 w (hgt g hg).2.2).mono ?_
  rintro e w' ⟨rfl, k, os, rfl⟩
  have hf := Fr.grow (Z := fun b => ∃ q, lab b = some q) w k os
  exact ⟨_, X, lab, rfl, hf, fun b _ hl => ⟨rfl, hl⟩, fun b hb => hX b (Nat.le_trans hf.size hb), ⟨rfl, fun j oe hj => by cases hj⟩, fun i q hq => by cases hq⟩
end Go.Bv

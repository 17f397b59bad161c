/- A list that is put into a box, walked. -/
import Derived.Test.YtcdbdmokaihcoaaProg
import Derived.Test.YtcdbdmokaihcoaaAvd
import Derived.WalkKit
import Derived.Lib.Walk
import Derived.Lib.SliceRun
import Derived.Deep.LoopGhost
import Derived.Deep.Draws
import Derived.Laws.Cells
import Derived.Laws.IdiomCopy
set_option linter.unusedVariables false
set_option linter.unusedSimpArgs false
namespace Go.Proofs.Ytcdbdmokaihcoaa
open Go.RowKit Go.Lib Go.Bv
set_option maxHeartbeats 4000000 in
set_option maxRecDepth 100000 in
theorem uni_walk (w : World) (a : Option Addr) (len cap : Nat) (x0 x1 x2 x3 y0 y1 y2 y3 : Value) (Q : Ending → World → Prop)
    (q0 : x0.oneCell' = true) (q1 : x1.oneCell' = true) (q2 : x2.oneCell' = true) (q3 : x3.oneCell' = true)
    (p0 : y0.oneCell' = true) (p1 : y1.oneCell' = true) (p2 : y2.oneCell' = true) (p3 : y3.oneCell' = true)
    (h : Calls Try.prog 74 #[.pointer (some ⟨w.heap.size + 1 + 1, 0, none⟩), .agg #[x0, x1, x2, x3], .agg #[y0, y1, y2, y3]] (((w.alloc (.cells #[x0, x1, x2, x3] 26)).alloc (.cells #[y0, y1, y2, y3] 26)).alloc (.cells #[.slice a len cap, .int .i64 0] 91)) (fun e w' => (∃ q, e = .returned (.bool q)) ∧ Q e w')) :
    Calls Try.prog 73 #[.slice a len cap, .agg #[x0, x1, x2, x3], .agg #[y0, y1, y2, y3]] w Q := by
  have H : Aside _ := h
  clear h
  go_enter Try.func73, Try.ntmps73
  go_wp2_with fail
  refine Calls.mono H.out ?_
  rintro e w' ⟨⟨q, rfl⟩, hq⟩
  clear H
  go_wp2_with fail
  exact hq
theorem four {l : List Value} (h : l.length = 4) : ∃ a b c d, l = [a, b, c, d] := by
  match l, h with
  | [a, b, c, d], _ => exact ⟨a, b, c, d, rfl⟩
theorem uni_road : UniRoad Try.prog 73 74 26 91 4 := ⟨by
  intro w a len cap xs ys Q hx hy h1 h2 h
  obtain ⟨x0, x1, x2, x3, e1⟩ := four (l := xs.toList) (by rw [Array.length_toList]; exact hx)
  obtain ⟨y0, y1, y2, y3, e2⟩ := four (l := ys.toList) (by rw [Array.length_toList]; exact hy)
  have e1' : xs = #[x0, x1, x2, x3] := by rw [← e1]
  have e2' : ys = #[y0, y1, y2, y3] := by rw [← e2]
  rw [e1] at h1
  rw [e2] at h2
  subst e1'; subst e2'
  refine uni_walk w a len cap x0 x1 x2 x3 y0 y1 y2 y3 Q (h1 x0 ?_) (h1 x1 ?_) (h1 x2 ?_) (h1 x3 ?_) (h2 y0 ?_) (h2 y1 ?_) (h2 y2 ?_) (h2 y3 ?_) h <;> simp⟩
end Go.Proofs.Ytcdbdmokaihcoaa

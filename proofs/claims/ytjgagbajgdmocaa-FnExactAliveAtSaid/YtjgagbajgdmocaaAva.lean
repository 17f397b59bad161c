/- Values of calls, told abstractly: what an operation gives, and that it does. -/
import Derived.Below
import Derived.Orders
import Derived.Laws.OwnMore
import Derived.Laws.IdiomCopy
import Derived.WalkLawsBesides
set_option linter.unusedVariables false
set_option linter.unusedSimpArgs false
/- Values of the evaluator, what they stand for in a world, and that this stays so. -/
namespace Go.Av
open Go.RowKit

inductive AV where
  | int (k : IntKind) (n : Int)
  | bool (b : Bool)
  | str (s : ByteArray)
  | agg (cs : List AV)
  | tup (vs : List AV)
  | sl (xs : List (List AV))
  | vptr (cs : List AV)
  | func (f : Nat) (caps : List AV)
  | undef

def AV.cells : AV → List AV
  | .agg cs => cs
  | v => [v]

/-- Of each block up to which place its cells are leant on: none: all of them. -/
abbrev Gh := Nat → Option Nat

def okc (X : Gh) (b o : Nat) : Prop := match X b with | none => True | some n => o < n

mutual
def Rel (X : Gh) (w : World) : AV → Value → Prop
  | .int k n, v => v = .int k n
  | .bool b, v => v = .bool b
  | .str s, v => v = .string s
  | .agg cs, v => ∃ us : List Value, v = .agg us.toArray ∧ RelL X w cs us
  | .tup vs, v => ∃ us : List Value, v = .tuple us.toArray ∧ RelL X w vs us
  | .sl xs, v => ∃ A len cap, v = .slice A len cap ∧ len = xs.length ∧ len ≤ cap ∧ (xs = [] ∨ ∃ b o sz, A = some ⟨b, o, none⟩ ∧ RelE X w sz b o xs)
  | .vptr cs, v => ∃ b o, v = .pointer (some ⟨b, o, none⟩) ∧ RelC X w b o cs
  | .func f caps, v => ∃ us : List Value, v = .func (.func f) #[] us.toArray ∧ RelL X w caps us
  | .undef, _ => True
def RelL (X : Gh) (w : World) : List AV → List Value → Prop
  | [], us => us = []
  | c :: cs, us => ∃ u r, us = u :: r ∧ Rel X w c u ∧ RelL X w cs r
def RelC (X : Gh) (w : World) (b o : Nat) : List AV → Prop
  | [] => True
  | c :: cs => (∃ u, w.cell? ⟨b, o, none⟩ = some u ∧ okc X b o ∧ Rel X w c u) ∧ RelC X w b (o + 1) cs
def RelE (X : Gh) (w : World) (sz b o : Nat) : List (List AV) → Prop
  | [] => True
  | cs :: xs => cs.length = sz ∧ RelC X w b o cs ∧ RelE X w sz b (o + sz) xs
end

/-- What is leant on stays. -/
def Ext (X : Gh) (w : World) (X' : Gh) (w' : World) : Prop :=
  ∀ b o u, w.cell? ⟨b, o, none⟩ = some u → okc X b o → w'.cell? ⟨b, o, none⟩ = some u ∧ okc X' b o

theorem Ext.refl (X w) : Ext X w X w := fun _ _ _ h k => ⟨h, k⟩
theorem Ext.trans {X w X' w' X'' w''} (h : Ext X w X' w') (h' : Ext X' w' X'' w'') : Ext X w X'' w'' :=
  fun b o u hc hk => let ⟨c, k⟩ := h b o u hc hk; h' b o u c k

mutual
theorem Rel.mono {X X' : Gh} {w w' : World} (h : Ext X w X' w') : ∀ (v : AV) (u : Value), Rel X w v u → Rel X' w' v u
  | .int _ _, _, r => r
  | .bool _, _, r => r
  | .str _, _, r => r
  | .agg cs, _, ⟨us, e, r⟩ => ⟨us, e, RelL.mono h cs us r⟩
  | .tup cs, _, ⟨us, e, r⟩ => ⟨us, e, RelL.mono h cs us r⟩
  | .sl xs, _, ⟨A, len, cap, e, hl, hc, r⟩ => ⟨A, len, cap, e, hl, hc, r.imp id fun ⟨b, o, sz, e, r⟩ => ⟨b, o, sz, e, RelE.mono h sz b o xs r⟩⟩
  | .vptr cs, _, ⟨b, o, e, r⟩ => ⟨b, o, e, RelC.mono h b o cs r⟩
  | .func _ cs, _, ⟨us, e, r⟩ => ⟨us, e, RelL.mono h cs us r⟩
  | .undef, _, _ => trivial
theorem RelL.mono {X X' : Gh} {w w' : World} (h : Ext X w X' w') : ∀ (cs : List AV) (us : List Value), RelL X w cs us → RelL X' w' cs us
  | [], _, r => r
  | c :: cs, _, ⟨u, r, e, a, b⟩ => ⟨u, r, e, Rel.mono h c u a, RelL.mono h cs r b⟩
theorem RelC.mono {X X' : Gh} {w w' : World} (h : Ext X w X' w') : ∀ (b o : Nat) (cs : List AV), RelC X w b o cs → RelC X' w' b o cs
  | _, _, [], r => r
  | b, o, c :: cs, ⟨⟨u, e, k, r⟩, q⟩ => ⟨⟨u, (h b o u e k).1, (h b o u e k).2, Rel.mono h c u r⟩, RelC.mono h b (o + 1) cs q⟩
theorem RelE.mono {X X' : Gh} {w w' : World} (h : Ext X w X' w') : ∀ (sz b o : Nat) (xs : List (List AV)), RelE X w sz b o xs → RelE X' w' sz b o xs
  | _, _, _, [], r => r
  | sz, b, o, cs :: xs, ⟨e, r, q⟩ => ⟨e, RelC.mono h b o cs r, RelE.mono h sz b (o + sz) xs q⟩
end

/-! lists of cells -/
theorem RelL.length {X w} : ∀ {cs : List AV} {us : List Value}, RelL X w cs us → us.length = cs.length
  | [], _, r => by rw [show _ = [] from r]; rfl
  | c :: cs, _, ⟨u, r, e, _, b⟩ => by rw [e]; simp [RelL.length b]

theorem RelL.append {X w} : ∀ {cs ds : List AV} {us vs : List Value}, RelL X w cs us → RelL X w ds vs → RelL X w (cs ++ ds) (us ++ vs)
  | [], _, _, _, r, q => by rw [show _ = [] from r]; exact q
  | c :: cs, _, _, _, ⟨u, r, e, a, b⟩, q => by rw [e]; exact ⟨u, _, rfl, a, RelL.append b q⟩

theorem RelL.drop {X w} : ∀ (n : Nat) {cs : List AV} {us : List Value}, RelL X w cs us → RelL X w (cs.drop n) (us.drop n)
  | 0, _, _, r => r
  | n + 1, [], _, r => by rw [show _ = [] from r]; exact rfl
  | n + 1, c :: cs, _, ⟨u, r, e, _, b⟩ => by rw [e]; exact RelL.drop n b

theorem RelL.take {X w} : ∀ (n : Nat) {cs : List AV} {us : List Value}, RelL X w cs us → RelL X w (cs.take n) (us.take n)
  | 0, _, _, _ => rfl
  | n + 1, [], _, r => by rw [show _ = [] from r]; exact rfl
  | n + 1, c :: cs, _, ⟨u, r, e, a, b⟩ => by rw [e]; exact ⟨u, _, rfl, a, RelL.take n b⟩

theorem RelL.get {X w} : ∀ {cs : List AV} {us : List Value} (i : Nat) {c : AV}, RelL X w cs us → cs[i]? = some c → ∃ u, us[i]? = some u ∧ Rel X w c u
  | [], _, _, _, _, h => by simp at h
  | c :: cs, _, 0, _, ⟨u, r, e, a, b⟩, h => by rw [e]; simp at h; exact ⟨u, rfl, h ▸ a⟩
  | c :: cs, _, i + 1, _, ⟨u, r, e, a, b⟩, h => by rw [e]; exact RelL.get i b (by simpa using h)

theorem RelL.set {X w} : ∀ {cs : List AV} {us : List Value} (i : Nat) {c : AV} {u : Value}, RelL X w cs us → Rel X w c u → RelL X w (cs.set i c) (us.set i u)
  | [], _, _, _, _, r, _ => by rw [show _ = [] from r]; exact rfl
  | c :: cs, _, 0, _, _, ⟨u, r, e, a, b⟩, h => by rw [e]; exact ⟨_, _, rfl, h, b⟩
  | c :: cs, _, i + 1, _, _, ⟨u, r, e, a, b⟩, h => by rw [e]; exact ⟨u, _, rfl, a, RelL.set i b h⟩

/-- A value's cells stand for the cells of what it stands for. -/
theorem Rel.cells {X w} {v : AV} {u : Value} (h : Rel X w v u) (hv : v ≠ .undef) (ht : ∀ vs, v ≠ .tup vs) : RelL X w v.cells u.cells.toList := by
  cases v with
  | agg cs => obtain ⟨us, rfl, r⟩ := h; exact r
  | int k n => rw [show u = _ from h]; exact ⟨_, [], rfl, rfl, rfl⟩
  | bool b => rw [show u = _ from h]; exact ⟨_, [], rfl, rfl, rfl⟩
  | str s => rw [show u = _ from h]; exact ⟨_, [], rfl, rfl, rfl⟩
  | tup vs => exact absurd rfl (ht vs)
  | sl xs => obtain ⟨A, len, cap, rfl, r⟩ := h; exact ⟨_, [], rfl, ⟨A, len, cap, rfl, r⟩, rfl⟩
  | vptr cs => obtain ⟨b, o, rfl, r⟩ := h; exact ⟨_, [], rfl, ⟨b, o, rfl, r⟩, rfl⟩
  | func f cs => obtain ⟨us, rfl, r⟩ := h; exact ⟨_, [], rfl, ⟨us, rfl, r⟩, rfl⟩
  | undef => exact absurd rfl hv

/-- Cells that lie in memory. -/
theorem RelC.get {X w} : ∀ {b o : Nat} {cs : List AV} (i : Nat) {c : AV}, RelC X w b o cs → cs[i]? = some c → ∃ u, w.cell? ⟨b, o + i, none⟩ = some u ∧ okc X b (o + i) ∧ Rel X w c u
  | _, _, [], _, _, _, h => by simp at h
  | b, o, c :: cs, 0, _, ⟨⟨u, e, k, a⟩, q⟩, h => by simp at h; exact ⟨u, e, k, h ▸ a⟩
  | b, o, c :: cs, i + 1, _, ⟨⟨u, e, k, a⟩, q⟩, h => by
    have := RelC.get (b := b) (o := o + 1) i q (by simpa using h)
    rwa [show o + 1 + i = o + (i + 1) by omega] at this

theorem RelC.drop {X w} : ∀ (n : Nat) {b o : Nat} {cs : List AV}, RelC X w b o cs → RelC X w b (o + n) (cs.drop n)
  | 0, _, _, _, r => r
  | n + 1, b, o, [], r => trivial
  | n + 1, b, o, c :: cs, ⟨_, q⟩ => by
    have := RelC.drop n q
    rw [show o + 1 + n = o + (n + 1) by omega] at this; exact this

theorem RelC.take {X w} : ∀ (n : Nat) {b o : Nat} {cs : List AV}, RelC X w b o cs → RelC X w b o (cs.take n)
  | 0, _, _, _, _ => trivial
  | n + 1, b, o, [], r => trivial
  | n + 1, b, o, c :: cs, ⟨a, q⟩ => ⟨a, RelC.take n q⟩

theorem RelE.get {X w} : ∀ {sz b o : Nat} {xs : List (List AV)} (i : Nat) {c : List AV}, RelE X w sz b o xs → xs[i]? = some c → c.length = sz ∧ RelC X w b (o + i * sz) c
  | _, _, _, [], _, _, _, h => by simp at h
  | sz, b, o, c :: cs, 0, _, ⟨e, k, a⟩, h => by simp at h; subst h; exact ⟨e, by simpa using k⟩
  | sz, b, o, c :: cs, i + 1, _, ⟨e, k, a⟩, h => by
    have := RelE.get (sz := sz) (b := b) (o := o + sz) i a (by simpa using h)
    rwa [show o + sz + i * sz = o + (i + 1) * sz by rw [Nat.add_mul]; omega] at this

theorem RelE.drop {X w} : ∀ (n : Nat) {sz b o : Nat} {xs : List (List AV)}, RelE X w sz b o xs → RelE X w sz b (o + n * sz) (xs.drop n)
  | 0, _, _, _, _, r => by simpa using r
  | n + 1, _, _, _, [], _ => trivial
  | n + 1, sz, b, o, c :: cs, ⟨_, _, q⟩ => by
    have := RelE.drop n q
    rw [show o + sz + n * sz = o + (n + 1) * sz by rw [Nat.add_mul]; omega] at this; exact this

theorem RelE.take {X w} : ∀ (n : Nat) {sz b o : Nat} {xs : List (List AV)}, RelE X w sz b o xs → RelE X w sz b o (xs.take n)
  | 0, _, _, _, _, _ => trivial
  | n + 1, _, _, _, [], _ => trivial
  | n + 1, sz, b, o, c :: cs, ⟨e, a, q⟩ => ⟨e, a, RelE.take n q⟩

theorem RelE.append {X w} : ∀ {sz b o : Nat} {xs ys : List (List AV)}, RelE X w sz b o xs → RelE X w sz b (o + xs.length * sz) ys → RelE X w sz b o (xs ++ ys)
  | _, _, _, [], _, _, q => by simpa using q
  | sz, b, o, c :: cs, ys, ⟨e, a, r⟩, q => ⟨e, a, RelE.append r (by
      have : o + (cs.length + 1) * sz = o + sz + cs.length * sz := by rw [Nat.add_mul]; omega
      simpa [this] using q)⟩

end Go.Av

/- The state of a call, and what one operation makes of it. -/
namespace Go.Av
open Go.RowKit

/-- What a slot holds: a value; a pointer into a box of this call; a slice that is an array of this call; a pointer into one of its elements. -/
inductive SV where
  | v (x : AV)
  | ptr (d off : Nat)
  | arr (d : Nat)
  | aptr (d i off : Nat)

/-- Which of the cells of a value are slices that nobody else appends to; of which element type. -/
abbrev OwnL := List (Nat × TypeId)

structure Look where
  t : Nat → Option (SV × OwnL)
  b : Nat → Option (List AV × OwnL)
  r : Nat → Option (Nat × List (List AV))

inductive Upd where
  | f (d : Nat)
  | t (s : Nat) (e : SV × OwnL)
  | b (d : Nat) (e : List AV × OwnL)
  | r (d : Nat) (e : Nat × List (List AV))

/-- Does it lead into what slot d holds? -/
def SV.into (d : Nat) : SV → Bool
  | .ptr k _ => Nat.beq k d
  | .arr k => Nat.beq k d
  | .aptr k _ _ => Nat.beq k d
  | .v _ => false

def Look.upd (L : Look) : Upd → Look
  | .f d => { L with t := fun k => match L.t k with | some e => (match e.1.into d with | true => none | false => some e) | none => none }
  | .t s e => { L with t := fun k => if k = s then some e else L.t k }
  | .b d e => { L with b := fun k => if k = d then some e else L.b k }
  | .r d e => { L with r := fun k => if k = d then some e else L.r k }

def Look.upds (L : Look) (us : List Upd) : Look := us.foldl Look.upd L

/-! types -/
def isAggP (P : Program) (t : TypeId) : Option Bool := (P.underlying t).map fun | .struct _ | .array _ _ => true | _ => false
def sizeP (P : Program) (t : TypeId) : Option Nat := (P.info? t).map (·.size)
def bytesP (P : Program) (t : TypeId) : Option Nat := (P.info? t).map (·.bytes)
def elemP (P : Program) (t : TypeId) : Option TypeId := match P.underlying t with | some (.slice e) => some e | _ => none
def isStrP (P : Program) (t : TypeId) : Bool := match P.underlying t with | some .string => true | _ => false
def fieldP (P : Program) (t : TypeId) (f : Nat) : Option (Nat × TypeId) := match P.underlying t with | some (.struct fs) => (fs[f]?).map fun x => (x.offset, x.type) | _ => none

def avConst : Value → Option AV
  | .int k n => some (.int k n)
  | .bool b => some (.bool b)
  | .string s => some (.str s)
  | .slice none 0 0 => some (.sl [])
  | .pointer none => some .undef
  | .nilFunc => some .undef
  | .map none => some .undef
  | .nilIface => some .undef
  | _ => none

def avConsts : List Value → Option (List AV)
  | [] => some []
  | v :: vs => match avConst v, avConsts vs with | some a, some as => some (a :: as) | _, _ => none

def zeroP (P : Program) (t : TypeId) : Option (List AV) := (P.info? t).bind fun i => i.zero.bind fun z => avConsts z.cells.toList

/-- The slices among the cells of a type. -/
def slicesIn (P : Program) : Nat → Nat → TypeId → OwnL
  | 0, _, _ => []
  | k + 1, off, t => match P.underlying t with
    | some (.slice e) => [(off, e)]
    | some (.struct fs) => fs.toList.flatMap fun f => slicesIn P k (off + f.offset) f.type
    | _ => []

def isNilC : Operand → Bool
  | .const (.slice none 0 0) => true
  | _ => false

def ev (L : Look) : Operand → Option (SV × OwnL)
  | .tmp t => L.t t
  | .const v => (avConst v).map fun a => (.v a, [])
  | .func f => some (.v (.func f []), [])
  | .global _ => none

def evV (L : Look) (x : Operand) : Option AV := match ev L x with | some (.v a, _) => some a | _ => none

def evVs (L : Look) : List Operand → Option (List AV)
  | [] => some []
  | x :: xs => match evV L x, evVs L xs with | some a, some as => some (a :: as) | _, _ => none

/-- A value of a type out of its cells. -/
def ofCells (agg : Bool) : List AV → Option AV
  | cs => if agg then some (.agg cs) else match cs with | [c] => some c | _ => none

def binI (op : BinOp) (k : IntKind) (x y : Int) : Option AV :=
  match op with
  | .add => some (.int k (k.wrap (x + y)))
  | .sub => some (.int k (k.wrap (x - y)))
  | .mul => some (.int k (k.wrap (x * y)))
  | .eql => some (.bool (x == y))
  | .neq => some (.bool (x != y))
  | .lss => some (.bool (decide (x < y)))
  | .leq => some (.bool (decide (x ≤ y)))
  | .gtr => some (.bool (decide (x > y)))
  | .geq => some (.bool (decide (x ≥ y)))
  | _ => none

def binS (op : BinOp) (x y : ByteArray) : Option AV :=
  match op with
  | .eql => some (.bool (x.toList == y.toList))
  | .neq => some (.bool (!(x.toList == y.toList)))
  | .lss => some (.bool (Op.bytesLess x.toList y.toList))
  | .leq => some (.bool (Op.bytesLess x.toList y.toList || x.toList == y.toList))
  | .gtr => some (.bool (!(Op.bytesLess x.toList y.toList || x.toList == y.toList)))
  | .geq => some (.bool (!Op.bytesLess x.toList y.toList))
  | _ => none

def ownShift (lo n : Nat) (own : OwnL) : OwnL := (own.filter fun p => decide (lo ≤ p.1) && decide (p.1 < lo + n)).map fun p => (p.1 - lo, p.2)
end Go.Av

/- What holds of a call's frame and of the world at each place of its walk. -/
namespace Go.Av
open Go.RowKit

inductive OP where
  | t (s j : Nat)
  | b (d j : Nat)
  deriving DecidableEq

/-- A place that the call holds alone: a box, an array, the room of a slice. -/
inductive EP where
  | box (d : Nat)
  | row (d : Nat)
  | own (p : OP)

def Value.flat : Value → List Value
  | .tuple vs => vs.toList.flatMap fun v => v.cells.toList
  | v => v.cells.toList

structure Gho where
  X : Gh
  bx : Nat → Nat
  rx : Nat → Nat
  ow : OP → Option Nat

def RelS (G : Gho) (L : Look) (w : World) : SV → Value → Prop
  | .v x, u => Rel G.X w x u
  | .ptr d off, u => u = .pointer (some ⟨G.bx d, off, none⟩)
  | .arr d, u => ∀ sz rows, L.r d = some (sz, rows) → u = .slice (some ⟨G.rx d, 0, none⟩) rows.length rows.length
  | .aptr d i off, u => ∀ sz rows, L.r d = some (sz, rows) → u = .pointer (some ⟨G.rx d, i * sz + off, none⟩)

/-- A slice that only this place appends to. -/
def OwnOk (P : Program) (X : Gh) (w : World) (base : Nat) (o : Option Nat) (e : TypeId) (u : Value) : Prop :=
  ∃ sz n us, sizeP P e = some sz ∧ w.ownsRow base e sz u n us ∧ u.ownBlock = o ∧ (∀ b, o = some b → X b = some (n * sz))

def Look.has (L : Look) : EP → Prop
  | .box d => ∃ e, L.b d = some e
  | .row d => ∃ e, L.r d = some e
  | .own (.t s j) => ∃ sv own e, L.t s = some (sv, own) ∧ (j, e) ∈ own
  | .own (.b d j) => ∃ cs own e, L.b d = some (cs, own) ∧ (j, e) ∈ own

def Gho.blk (G : Gho) : EP → Option Nat
  | .box d => some (G.bx d)
  | .row d => some (G.rx d)
  | .own p => G.ow p

structure Inv (P : Program) (w0 : World) (X0 : Gh) (n : Nat) (L : Look) (a : Act) (w : World) (G : Gho) : Prop where
  size : a.tmps.size = n
  dfr : a.defers = []
  bel : Below w0.heap.size w0 w
  old : ∀ b, b < w0.heap.size → G.X b = X0 b
  new : ∀ b, w.heap.size ≤ b → G.X b = none
  tm : ∀ s sv own, L.t s = some (sv, own) → s < n ∧ RelS G L w sv (a.tmps.getD s undef)
  bo : ∀ d cs own, L.b d = some (cs, own) → w0.heap.size ≤ G.bx d ∧ G.X (G.bx d) = some 0 ∧ ∃ us e, w.heap[G.bx d]? = some (.cells us e (0, 0)) ∧ RelL G.X w cs us.toList
  ro : ∀ d sz rows, L.r d = some (sz, rows) → w0.heap.size ≤ G.rx d ∧ G.X (G.rx d) = some 0 ∧ (∀ c ∈ rows, c.length = sz) ∧
    ∃ us e, w.heap[G.rx d]? = some (.cells us e (0, 0)) ∧ RelL G.X w rows.flatten us.toList
  ot : ∀ s sv own j e, L.t s = some (sv, own) → (j, e) ∈ own → ∃ u, (Value.flat (a.tmps.getD s undef))[j]? = some u ∧ OwnOk P G.X w w0.heap.size (G.ow (.t s j)) e u
  ob : ∀ d cs own j e, L.b d = some (cs, own) → (j, e) ∈ own → ∃ u, w.cell? ⟨G.bx d, j, none⟩ = some u ∧ OwnOk P G.X w w0.heap.size (G.ow (.b d j)) e u
  dist : ∀ p q b, L.has p → L.has q → G.blk p = some b → G.blk q = some b → p = q

def SR (P : Program) (w0 : World) (X0 : Gh) (n : Nat) (L : Look) (a : Act) (w : World) : Prop := ∃ G, Inv P w0 X0 n L a w G

/-! the world grows -/
theorem Ext.below {X X' : Gh} {w w' : World} (hb : Below w.heap.size w w') (hX : ∀ b, b < w.heap.size → X' b = X b) : Ext X w X' w' := by
  intro b o u hc hk
  have hlt : b < w.heap.size := World.block_lt_of_cell? w ⟨b, o, none⟩ hc
  refine ⟨(hb.cell (p := ⟨b, o, none⟩) hlt).trans hc, ?_⟩
  simpa [okc, hX b hlt] using hk

theorem RelS.mono {G G' : Gho} {L : Look} {w w' : World} (h : Ext G.X w G'.X w') (hb : G'.bx = G.bx) (hr : G'.rx = G.rx) : ∀ {sv : SV} {u : Value}, RelS G L w sv u → RelS G' L w' sv u
  | .v x, u, r => Rel.mono h x u r
  | .ptr d off, u, r => by simpa [RelS, hb] using r
  | .arr d, u, r => by simpa [RelS, hr] using r
  | .aptr d i off, u, r => by simpa [RelS, hr] using r

theorem OwnOk.lt {P : Program} {X : Gh} {w : World} {base : Nat} {o : Option Nat} {e : TypeId} {u : Value} (h : OwnOk P X w base o e u) : ∀ b, o = some b → base ≤ b ∧ b < w.heap.size := by
  obtain ⟨sz, n, us, _, hw, ho, _⟩ := h
  intro b hb
  exact hw.lt b (ho.trans hb)

theorem OwnOk.below {P : Program} {X X' : Gh} {w w' : World} {base : Nat} {o : Option Nat} {e : TypeId} {u : Value} (hb : Below w.heap.size w w') (hX : ∀ b, b < w.heap.size → X' b = X b)
    (h : OwnOk P X w base o e u) : OwnOk P X' w' base o e u := by
  have hlt := h.lt
  obtain ⟨sz, n, us, hs, hw, ho, hx⟩ := h
  refine ⟨sz, n, us, hs, hw.kept (row := none) ⟨hb.os, hb.tape, hb.output, hb.size, fun k hk _ => hb.block k hk⟩ (by cases h : u.ownBlock <;> simp), ho, ?_⟩
  intro b e
  rw [hX b (hlt b e).2]
  exact hx b e

/-- New blocks, and nothing else: what was known stays known. -/
theorem Inv.grow {P : Program} {w0 : World} {X0 : Gh} {n : Nat} {L : Look} {a : Act} {w w' : World} {G : Gho} (h : Inv P w0 X0 n L a w G) {X' : Gh}
    (hb : Below w.heap.size w w') (hX : ∀ b, b < w.heap.size → X' b = G.X b) (hn : ∀ b, w'.heap.size ≤ b → X' b = none) : Inv P w0 X0 n L a w' { G with X := X' } := by
  have hE : Ext G.X w X' w' := Ext.below hb hX
  have hw0 : w0.heap.size ≤ w.heap.size := h.bel.size
  refine ⟨h.size, h.dfr, h.bel.trans (hb.mono hw0), ?_, hn, ?_, ?_, ?_, ?_, ?_, ?_⟩
  · intro b hlt
    show X' b = _
    rw [hX b (by omega)]; exact h.old b hlt
  · intro s sv own hs
    exact ⟨(h.tm s sv own hs).1, RelS.mono (G' := { G with X := X' }) hE rfl rfl (h.tm s sv own hs).2⟩
  · intro d cs own hd
    obtain ⟨h1, h2, us, e, h3, h4⟩ := h.bo d cs own hd
    have hlt : G.bx d < w.heap.size := (Array.getElem?_eq_some_iff.1 h3).1
    exact ⟨h1, (hX _ hlt).trans h2, us, e, (hb.block _ hlt).trans h3, RelL.mono hE _ _ h4⟩
  · intro d sz rows hd
    obtain ⟨h1, h2, h2', us, e, h3, h4⟩ := h.ro d sz rows hd
    have hlt : G.rx d < w.heap.size := (Array.getElem?_eq_some_iff.1 h3).1
    exact ⟨h1, (hX _ hlt).trans h2, h2', us, e, (hb.block _ hlt).trans h3, RelL.mono hE _ _ h4⟩
  · intro s sv own j e hs hj
    obtain ⟨u, hu, ho⟩ := h.ot s sv own j e hs hj
    exact ⟨u, hu, ho.below hb hX⟩
  · intro d cs own j e hs hj
    obtain ⟨u, hu, ho⟩ := h.ob d cs own j e hs hj
    exact ⟨u, (hb.cell (p := ⟨G.bx d, j, none⟩) (World.block_lt_of_cell? w ⟨G.bx d, j, none⟩ hu)).trans hu, ho.below hb hX⟩
  · intro p q b hp hq
    exact h.dist p q b hp hq

theorem getD_set (a : Act) (d s : Nat) (u : Value) (hd : d < a.tmps.size) : (a.put (some d) u).tmps.getD s undef = if s = d then u else a.tmps.getD s undef := by
  simp only [Act.put, Array.getD_eq_getD_getElem?, Array.getElem?_setIfInBounds]
  by_cases h : d = s
  · subst h; simp [hd]
  · rw [if_neg h, if_neg (fun e => h e.symm)]

/-- A slot gets a value. -/
theorem Inv.setT {P : Program} {w0 : World} {X0 : Gh} {n : Nat} {L : Look} {a : Act} {w : World} {G : Gho} (h : Inv P w0 X0 n L a w G) {d : Nat} {sv : SV} {own : OwnL} {u : Value} (hd : d < n)
    (hs : RelS G L w sv u) (od : Nat → Option Nat)
    (ho : ∀ j e, (j, e) ∈ own → ∃ c, (Value.flat u)[j]? = some c ∧ OwnOk P G.X w w0.heap.size (od j) e c)
    (hd1 : ∀ j e k e' b, (j, e) ∈ own → (k, e') ∈ own → od j = some b → od k = some b → j = k)
    (hd2 : ∀ j e q b, (j, e) ∈ own → L.has q → (∀ k, q ≠ .own (.t d k)) → od j = some b → G.blk q ≠ some b) :
    Inv P w0 X0 n (L.upd (.t d (sv, own))) (a.put (some d) u) w { G with ow := fun p => match p with | .t s j => if s = d then od j else G.ow p | p => G.ow p } := by
  have hsz : d < a.tmps.size := by rw [h.size]; exact hd
  have hRS : ∀ {sv : SV} {u : Value}, RelS G L w sv u → RelS { G with ow := fun p => match p with | .t s j => if s = d then od j else G.ow p | p => G.ow p } (L.upd (.t d (sv, own))) w sv u := by
    intro sv u r; cases sv <;> exact r
  refine ⟨by simp [Act.put, h.size], h.dfr, h.bel, h.old, h.new, ?_, h.bo, h.ro, ?_, h.ob, ?_⟩
  · intro s sv' own' hs'
    rw [getD_set a d s u hsz]
    by_cases e : s = d
    · subst e
      simp only [Look.upd, if_pos] at hs'
      cases hs'
      exact ⟨hd, by rw [if_pos rfl]; cases sv <;> exact hs⟩
    · simp only [Look.upd, if_neg e] at hs'
      have := h.tm s sv' own' hs'
      exact ⟨this.1, by rw [if_neg e]; cases sv' <;> exact this.2⟩
  · intro s sv' own' j e hs' hj
    rw [getD_set a d s u hsz]
    by_cases e' : s = d
    · subst e'
      simp only [Look.upd, if_pos] at hs'
      cases hs'
      simpa using ho j e hj
    · simp only [Look.upd, if_neg e'] at hs'
      simpa [e'] using h.ot s sv' own' j e hs' hj
  · have key : ∀ q : EP, (L.upd (.t d (sv, own))).has q → (∀ k, q ≠ .own (.t d k)) → L.has q := by
      intro q hq hne
      cases q with
      | box d' => exact hq
      | row d' => exact hq
      | own p =>
        cases p with
        | b d' j => exact hq
        | t s j =>
          have : s ≠ d := fun e => hne j (by rw [e])
          obtain ⟨sv', own', e, h1, h2⟩ := hq
          simp only [Look.upd, if_neg this] at h1
          exact ⟨sv', own', e, h1, h2⟩
    have blkeq : ∀ q : EP, (∀ k, q ≠ .own (.t d k)) → Gho.blk { G with ow := fun p => match p with | .t s j => if s = d then od j else G.ow p | p => G.ow p } q = G.blk q := by
      intro q hne
      cases q with
      | box d' => rfl
      | row d' => rfl
      | own p =>
        cases p with
        | b d' j => rfl
        | t s j =>
          have : s ≠ d := fun e => hne j (by rw [e])
          simp [Gho.blk, this]
    have isd : ∀ q : EP, (∀ k, q ≠ .own (.t d k)) ∨ ∃ k, q = .own (.t d k) := by
      intro q
      cases q with
      | box d' => exact .inl (fun k e => by cases e)
      | row d' => exact .inl (fun k e => by cases e)
      | own p =>
        cases p with
        | b d' j => exact .inl (fun k e => by cases e)
        | t s j =>
          by_cases e : s = d
          · exact .inr ⟨j, by rw [e]⟩
          · exact .inl (fun k e' => by cases e'; exact e rfl)
    have hasd : ∀ k, (L.upd (.t d (sv, own))).has (.own (.t d k)) → ∃ e, (k, e) ∈ own := by
      rintro k ⟨sv', own', e, h1, h2⟩
      simp only [Look.upd, if_pos] at h1
      cases h1
      exact ⟨e, h2⟩
    intro p q b hp hq hbp hbq
    rcases isd p with hp' | ⟨j, rfl⟩ <;> rcases isd q with hq' | ⟨k, rfl⟩
    · exact h.dist p q b (key p hp hp') (key q hq hq') (by rw [← blkeq p hp']; exact hbp) (by rw [← blkeq q hq']; exact hbq)
    · obtain ⟨e, he⟩ := hasd k hq
      exact absurd (by rw [← blkeq p hp']; exact hbp) (hd2 k e p b he (key p hp hp') hp' (by simpa [Gho.blk] using hbq))
    · obtain ⟨e, he⟩ := hasd j hp
      exact absurd (by rw [← blkeq q hq']; exact hbq) (hd2 j e q b he (key q hq hq') hq' (by simpa [Gho.blk] using hbp))
    · obtain ⟨e, he⟩ := hasd j hp
      obtain ⟨e', he'⟩ := hasd k hq
      have := hd1 j e k e' b he he' (by simpa [Gho.blk] using hbp) (by simpa [Gho.blk] using hbq)
      rw [this]

/-- A slot gets a value that owns nothing. -/
theorem Inv.setT0 {P : Program} {w0 : World} {X0 : Gh} {n : Nat} {L : Look} {a : Act} {w : World} {G : Gho} (h : Inv P w0 X0 n L a w G) {d : Nat} {sv : SV} {u : Value} (hd : d < n)
    (hs : RelS G L w sv u) : SR P w0 X0 n (L.upd (.t d (sv, []))) (a.put (some d) u) w :=
  ⟨_, h.setT hd hs (fun _ => none) (by simp) (by simp) (by simp)⟩
end Go.Av

/- Steps of the invariant: what is owned moves, boxes are made, read and written. -/
namespace Go.Av
open Go.RowKit
variable {P : Program} {w0 : World} {X0 : Gh} {n : Nat} {L : Look} {a : Act} {w w' : World} {G : Gho}

/-- Less is known. -/
theorem Inv.less (h : Inv P w0 X0 n L a w G) {L' : Look} (ht : ∀ s sv own, L'.t s = some (sv, own) → ∃ own', L.t s = some (sv, own') ∧ ∀ x ∈ own, x ∈ own')
    (hb : ∀ d cs own, L'.b d = some (cs, own) → ∃ own', L.b d = some (cs, own') ∧ ∀ x ∈ own, x ∈ own') (hr : ∀ d e, L'.r d = some e → L.r d = some e) : Inv P w0 X0 n L' a w G := by
  have hRS : ∀ {sv : SV} {u : Value}, RelS G L w sv u → RelS G L' w sv u := by
    intro sv u r
    cases sv with
    | v x => exact r
    | ptr d off => exact r
    | arr d => exact fun sz rows e => r sz rows (hr d _ e)
    | aptr d i off => exact fun sz rows e => r sz rows (hr d _ e)
  have hhas : ∀ p, L'.has p → L.has p := by
    intro p hp
    cases p with
    | box d => obtain ⟨⟨cs, own⟩, e⟩ := hp; obtain ⟨own', h1, _⟩ := hb d cs own e; exact ⟨_, h1⟩
    | row d => obtain ⟨e, he⟩ := hp; exact ⟨e, hr d e he⟩
    | own p =>
      cases p with
      | t s j => obtain ⟨sv, own, e, h1, h2⟩ := hp; obtain ⟨own', h3, h4⟩ := ht s sv own h1; exact ⟨sv, own', e, h3, h4 _ h2⟩
      | b s j => obtain ⟨sv, own, e, h1, h2⟩ := hp; obtain ⟨own', h3, h4⟩ := hb s sv own h1; exact ⟨sv, own', e, h3, h4 _ h2⟩
  refine ⟨h.size, h.dfr, h.bel, h.old, h.new, ?_, ?_, ?_, ?_, ?_, ?_⟩
  · intro s sv own hs
    obtain ⟨own', h1, _⟩ := ht s sv own hs
    exact ⟨(h.tm s sv own' h1).1, hRS (h.tm s sv own' h1).2⟩
  · intro d cs own hd
    obtain ⟨own', h1, _⟩ := hb d cs own hd
    exact h.bo d cs own' h1
  · intro d sz rows hd
    exact h.ro d sz rows (hr d _ hd)
  · intro s sv own j e hs hj
    obtain ⟨own', h1, h2⟩ := ht s sv own hs
    exact h.ot s sv own' j e h1 (h2 _ hj)
  · intro d cs own j e hs hj
    obtain ⟨own', h1, h2⟩ := hb d cs own hs
    exact h.ob d cs own' j e h1 (h2 _ hj)
  · intro p q b hp hq
    exact h.dist p q b (hhas p hp) (hhas q hq)

theorem Inv.clearT (h : Inv P w0 X0 n L a w G) {s : Nat} {sv : SV} {own : OwnL} (hs : L.t s = some (sv, own)) : Inv P w0 X0 n (L.upd (.t s (sv, []))) a w G := by
  refine h.less ?_ (fun d cs own e => ⟨own, e, fun x hx => hx⟩) (fun d e he => he)
  intro k sv' own' hk
  by_cases e : k = s
  · subst e; simp only [Look.upd, if_pos] at hk; cases hk; exact ⟨own, hs, by simp⟩
  · simp only [Look.upd, if_neg e] at hk; exact ⟨own', hk, fun x hx => hx⟩

theorem Inv.clearB (h : Inv P w0 X0 n L a w G) {s : Nat} {cs : List AV} {own own1 : OwnL} (hs : L.b s = some (cs, own)) (hsub : ∀ x ∈ own1, x ∈ own) : Inv P w0 X0 n (L.upd (.b s (cs, own1))) a w G := by
  refine h.less (fun d cs own e => ⟨own, e, fun x hx => hx⟩) ?_ (fun d e he => he)
  intro k sv' own' hk
  by_cases e : k = s
  · subst e; simp only [Look.upd, if_pos] at hk; cases hk; exact ⟨own, hs, hsub⟩
  · simp only [Look.upd, if_neg e] at hk; exact ⟨own', hk, fun x hx => hx⟩

/-- A slot gets a value; what of it is owned was another slot's. -/
theorem Inv.moveT (h : Inv P w0 X0 n L a w G) {s d : Nat} {sv sv' : SV} {own own' : OwnL} {u : Value} (hs : L.t s = some (sv, own)) (hd : d < n) (hr : RelS G L w sv' u) (f : Nat → Nat)
    (hf : ∀ j e, (j, e) ∈ own' → (f j, e) ∈ own ∧ (Value.flat u)[j]? = (Value.flat (a.tmps.getD s undef))[f j]?) (hinj : ∀ j k, f j = f k → j = k) :
    SR P w0 X0 n ((L.upd (.t s (sv, []))).upd (.t d (sv', own'))) (a.put (some d) u) w := by
  have hc := h.clearT hs
  refine ⟨_, hc.setT hd ?_ (fun j => G.ow (.t s (f j))) ?_ ?_ ?_⟩
  · cases sv' <;> exact hr
  · intro j e hj
    obtain ⟨h1, h2⟩ := hf j e hj
    rw [h2]
    exact h.ot s sv own (f j) e hs h1
  · intro j e k e' b hj hk ej ek
    have := h.dist (.own (.t s (f j))) (.own (.t s (f k))) b ⟨sv, own, e, hs, (hf j e hj).1⟩ ⟨sv, own, e', hs, (hf k e' hk).1⟩ ej ek
    simp only [EP.own.injEq, OP.t.injEq, true_and] at this
    exact hinj _ _ this
  · intro j e q b hj hq hne ej hq'
    have hq1 : L.has q := by
      cases q with
      | box d => exact hq
      | row d => exact hq
      | own p =>
        cases p with
        | b d j => exact hq
        | t k j =>
          obtain ⟨sv', own', e', h1, h2⟩ := hq
          by_cases ek : k = s
          · subst ek; simp only [Look.upd, if_pos] at h1; cases h1; simp at h2
          · simp only [Look.upd, if_neg ek] at h1; exact ⟨sv', own', e', h1, h2⟩
    have := h.dist (.own (.t s (f j))) q b ⟨sv, own, e, hs, (hf j e hj).1⟩ hq1 ej hq'
    subst this
    obtain ⟨sv', own', e', h1, h2⟩ := hq
    simp only [Look.upd, if_pos] at h1; cases h1; simp at h2
end Go.Av

/- Boxes and arrays: made, read, written. -/
namespace Go.Av
open Go.RowKit
variable {P : Program} {w0 : World} {X0 : Gh} {n : Nat} {L : Look} {a : Act} {w w' : World} {G : Gho}

/-- One block of the call's own is written, on which nobody leans; all else stays. -/
structure Wrote (w w' : World) (b : Nat) : Prop where
  os : w'.os = w.os
  tape : w'.tape = w.tape
  output : w'.output = w.output
  size : w'.heap.size = w.heap.size
  block : ∀ k, k ≠ b → w'.heap[k]? = w.heap[k]?

theorem Wrote.setRow (w : World) (g : Nat) (c : Array Value) : Wrote w (w.setRow g c) g :=
  ⟨rfl, rfl, rfl, by simp [World.setRow], fun k hk => setRow_other w g k c hk⟩

theorem Wrote.below {b : Nat} (h : Wrote w w' b) {B : Nat} (hB : B ≤ b) : Below B w w' :=
  ⟨h.os, h.tape, h.output, Nat.le_of_eq h.size.symm, fun k hk => h.block k (by omega)⟩

theorem Wrote.ext {b : Nat} (h : Wrote w w' b) {X : Gh} (hX : X b = some 0) : Ext X w X w' := by
  intro k o u hc hk
  have hne : k ≠ b := by
    intro e; subst e
    simp [okc, hX] at hk
  refine ⟨?_, hk⟩
  rw [World.cell?_of_block (w := w) (a := ⟨k, o, none⟩) (h.block k hne)]; exact hc

theorem OwnOk.wrote {X : Gh} {b base : Nat} (h : Wrote w w' b) {o : Option Nat} {e : TypeId} {u : Value} (hne : o ≠ some b) (ho : OwnOk P X w base o e u) : OwnOk P X w' base o e u := by
  obtain ⟨sz, n, us, hs, hw, ho', hx⟩ := ho
  refine ⟨sz, n, us, hs, hw.kept (row := some b) ⟨h.os, h.tape, h.output, Nat.le_of_eq h.size.symm, fun k _ hk => h.block k (fun e => hk (by rw [e]))⟩ ?_, ho', hx⟩
  cases hu : u.ownBlock with
  | none => exact .inl rfl
  | some k => exact .inr (by rw [← hu, ho']; exact hne)

theorem cell_row {w : World} {b : Nat} {us : Array Value} {e : TypeId} {z : Nat × Nat} (h : w.heap[b]? = some (.cells us e z)) (j : Nat) : w.cell? ⟨b, j, none⟩ = us[j]? := by
  simp [World.cell?, h]

/-- A box's content turns. -/
theorem Inv.setBox (h : Inv P w0 X0 n L a w G) {d : Nat} {cs cs' : List AV} {own own' : OwnL} (hd : L.b d = some (cs, own)) (hw : Wrote w w' (G.bx d)) {us : Array Value} {e : TypeId}
    (hu : w'.heap[G.bx d]? = some (.cells us e (0, 0))) (hrel : RelL G.X w' cs' us.toList) (od : Nat → Option Nat)
    (ho : ∀ j t, (j, t) ∈ own' → ∃ c, us[j]? = some c ∧ OwnOk P G.X w' w0.heap.size (od j) t c)
    (hd1 : ∀ j t k t' b, (j, t) ∈ own' → (k, t') ∈ own' → od j = some b → od k = some b → j = k)
    (hd2 : ∀ j t q b, (j, t) ∈ own' → L.has q → (∀ k, q ≠ .own (.b d k)) → od j = some b → G.blk q ≠ some b) :
    Inv P w0 X0 n (L.upd (.b d (cs', own'))) a w' { G with ow := fun p => match p with | .b k j => if k = d then od j else G.ow p | p => G.ow p } := by
  obtain ⟨hb1, hb2, us0, e0, hb3, hb4⟩ := h.bo d cs own hd
  have hE : Ext G.X w G.X w' := hw.ext hb2
  have hhasbox : L.has (.box d) := ⟨_, hd⟩
  have isd : ∀ q : EP, (∀ k, q ≠ .own (.b d k)) ∨ ∃ k, q = .own (.b d k) := by
    intro q
    cases q with
    | box d' => exact .inl (fun k e => by cases e)
    | row d' => exact .inl (fun k e => by cases e)
    | own p =>
      cases p with
      | t d' j => exact .inl (fun k e => by cases e)
      | b s j =>
        by_cases e : s = d
        · exact .inr ⟨j, by rw [e]⟩
        · exact .inl (fun k e' => by cases e'; exact e rfl)
  have blkeq : ∀ q : EP, (∀ k, q ≠ .own (.b d k)) → Gho.blk { G with ow := fun p => match p with | .b k j => if k = d then od j else G.ow p | p => G.ow p } q = G.blk q := by
    intro q hne
    cases q with
    | box d' => rfl
    | row d' => rfl
    | own p =>
      cases p with
      | t d' j => rfl
      | b s j =>
        have : s ≠ d := fun e => hne j (by rw [e])
        simp [Gho.blk, this]
  have key : ∀ q : EP, (L.upd (.b d (cs', own'))).has q → (∀ k, q ≠ .own (.b d k)) → L.has q := by
    intro q hq hne
    cases q with
    | box k =>
      by_cases ek : k = d
      · subst ek; exact hhasbox
      · obtain ⟨x, hx⟩ := hq; simp only [Look.upd, if_neg ek] at hx; exact ⟨x, hx⟩
    | row k => exact hq
    | own p =>
      cases p with
      | t k j => exact hq
      | b k j =>
        by_cases ek : k = d
        · exact absurd (by rw [ek]) (hne j)
        · obtain ⟨x, y, z, hx, hz⟩ := hq; simp only [Look.upd, if_neg ek] at hx; exact ⟨x, y, z, hx, hz⟩
  have notbx : ∀ q, L.has q → q ≠ .box d → G.blk q ≠ some (G.bx d) := fun q hq hne e => hne (h.dist q (.box d) (G.bx d) hq hhasbox e rfl)
  refine ⟨h.size, h.dfr, h.bel.trans (hw.below hb1), h.old, ?_, ?_, ?_, ?_, ?_, ?_, ?_⟩
  · intro b hb; rw [hw.size] at hb; exact h.new b hb
  · intro s sv own hs
    have := h.tm s sv own hs
    refine ⟨this.1, ?_⟩
    have r := RelS.mono (G' := { G with ow := fun p => match p with | .b k j => if k = d then od j else G.ow p | p => G.ow p }) hE rfl rfl this.2
    cases sv <;> exact r
  · intro k ks ko hk
    by_cases ek : k = d
    · subst ek
      simp only [Look.upd, if_pos] at hk
      cases hk
      exact ⟨hb1, hb2, us, e, hu, hrel⟩
    · simp only [Look.upd, if_neg ek] at hk
      obtain ⟨h1, h2, us', e', h3, h4⟩ := h.bo k ks ko hk
      have hne : G.bx k ≠ G.bx d := fun e => notbx (.box k) ⟨_, hk⟩ (by simpa using ek) (by simp [Gho.blk, e])
      exact ⟨h1, h2, us', e', (hw.block _ hne).trans h3, RelL.mono hE _ _ h4⟩
  · intro k sz rows hk
    obtain ⟨h1, h2, h2', us', e', h3, h4⟩ := h.ro k sz rows hk
    have hne : G.rx k ≠ G.bx d := fun e => notbx (.row k) ⟨_, hk⟩ (by simp) (by simp [Gho.blk, e])
    exact ⟨h1, h2, h2', us', e', (hw.block _ hne).trans h3, RelL.mono hE _ _ h4⟩
  · intro s sv ow j t hs hj
    obtain ⟨u, hu', ho'⟩ := h.ot s sv ow j t hs hj
    exact ⟨u, hu', ho'.wrote hw (fun e => notbx (.own (.t s j)) ⟨sv, ow, t, hs, hj⟩ (by simp) (by simpa [Gho.blk] using e))⟩
  · intro k ks ko j t hk hj
    by_cases ek : k = d
    · subst ek
      simp only [Look.upd, if_pos] at hk
      cases hk
      obtain ⟨c, hc, hoc⟩ := ho j t hj
      exact ⟨c, by rw [cell_row hu]; exact hc, by simpa using hoc⟩
    · simp only [Look.upd, if_neg ek] at hk
      obtain ⟨u, hu', ho'⟩ := h.ob k ks ko j t hk hj
      have hne : G.bx k ≠ G.bx d := fun e => notbx (.box k) ⟨_, hk⟩ (by simpa using ek) (by simp [Gho.blk, e])
      refine ⟨u, by rw [World.cell?_of_block (w := w) (a := ⟨G.bx k, j, none⟩) (hw.block _ hne)]; exact hu', ?_⟩
      have := ho'.wrote hw (fun e => notbx (.own (.b k j)) ⟨ks, ko, t, hk, hj⟩ (by simp) (by simpa [Gho.blk] using e))
      simpa [ek] using this
  · have hasd : ∀ k, (L.upd (.b d (cs', own'))).has (.own (.b d k)) → ∃ e, (k, e) ∈ own' := by
      rintro k ⟨x, y, z, hx, hz⟩
      simp only [Look.upd, if_pos] at hx
      cases hx
      exact ⟨z, hz⟩
    intro p q b hp hq hbp hbq
    rcases isd p with hp' | ⟨j, rfl⟩ <;> rcases isd q with hq' | ⟨k, rfl⟩
    · exact h.dist p q b (key p hp hp') (key q hq hq') (by rw [← blkeq p hp']; exact hbp) (by rw [← blkeq q hq']; exact hbq)
    · obtain ⟨e, he⟩ := hasd k hq
      exact absurd (by rw [← blkeq p hp']; exact hbp) (hd2 k e p b he (key p hp hp') hp' (by simpa [Gho.blk] using hbq))
    · obtain ⟨e, he⟩ := hasd j hp
      exact absurd (by rw [← blkeq q hq']; exact hbq) (hd2 j e q b he (key q hq hq') hq' (by simpa [Gho.blk] using hbp))
    · obtain ⟨e, he⟩ := hasd j hp
      obtain ⟨e', he'⟩ := hasd k hq
      have := hd1 j e k e' b he he' (by simpa [Gho.blk] using hbp) (by simpa [Gho.blk] using hbq)
      rw [this]

/-- A new box takes the place of whatever the slot had. -/
theorem Inv.newBox (h : Inv P w0 X0 n L a w G) {d : Nat} (hd : d < n) (hnp : ∀ s off own, s ≠ d → L.t s ≠ some (.ptr d off, own)) {us : Array Value} {cs : List AV} {e : TypeId} {own : OwnL}
    (hrel : RelL G.X w cs us.toList) (od : Nat → Option Nat)
    (ho : ∀ j t, (j, t) ∈ own → ∃ c, us[j]? = some c ∧ OwnOk P G.X w w0.heap.size (od j) t c)
    (hd1 : ∀ j t k t' b, (j, t) ∈ own → (k, t') ∈ own → od j = some b → od k = some b → j = k)
    (hd2 : ∀ j t q b, (j, t) ∈ own → L.has q → od j = some b → G.blk q ≠ some b) :
    SR P w0 X0 n ((L.upd (.b d (cs, own))).upd (.t d (.ptr d 0, []))) (a.put (some d) (.pointer (some ⟨w.heap.size, 0, none⟩))) (w.alloc (.cells us e)) := by
  -- the slot is forgotten first
  let L1 : Look := { L with t := fun k => if k = d then none else L.t k, b := fun k => if k = d then none else L.b k }
  have h1 : Inv P w0 X0 n L1 a w G := by
    refine h.less ?_ ?_ (fun k x hx => hx)
    · intro s sv ow hs
      by_cases es : s = d
      · simp [L1, es] at hs
      · simp only [L1, if_neg es] at hs; exact ⟨ow, hs, fun x hx => hx⟩
    · intro s sv ow hs
      by_cases es : s = d
      · simp [L1, es] at hs
      · simp only [L1, if_neg es] at hs; exact ⟨ow, hs, fun x hx => hx⟩
  have hBel : Below w.heap.size w (w.alloc (.cells us e)) := (Below.refl _ _).alloc (Nat.le_refl _) _
  let X' : Gh := fun b => if b = w.heap.size then some 0 else G.X b
  have hXe : ∀ b, b < w.heap.size → X' b = G.X b := fun b hb => by simp only [X']; rw [if_neg (by omega)]
  have h2 := h1.grow (X' := X') hBel hXe (fun b hb => by
    simp only [World.size_alloc] at hb
    simp only [X']; rw [if_neg (by omega)]; exact h.new b (by omega))
  have hE : Ext G.X w X' (w.alloc (.cells us e)) := Ext.below hBel hXe
  have hnew : (w.alloc (.cells us e)).heap[w.heap.size]? = some (.cells us e (0, 0)) := heap_alloc_new w _
  have hw0 : w0.heap.size ≤ w.heap.size := h.bel.size
  -- no place of L1 has the new block
  have hlt : ∀ q b, L.has q → G.blk q = some b → b < w.heap.size := by
    intro q b hq hb
    cases q with
    | box k => obtain ⟨⟨x, y⟩, hx⟩ := hq; obtain ⟨_, _, us', e', h3, _⟩ := h.bo k x y hx; simp [Gho.blk] at hb; subst hb; exact (Array.getElem?_eq_some_iff.1 h3).1
    | row k => obtain ⟨⟨x, y⟩, hx⟩ := hq; obtain ⟨_, _, _, us', e', h3, _⟩ := h.ro k x y hx; simp [Gho.blk] at hb; subst hb; exact (Array.getElem?_eq_some_iff.1 h3).1
    | own p =>
      cases p with
      | t s j => obtain ⟨x, y, z, hx, hz⟩ := hq; obtain ⟨u, _, ho⟩ := h.ot s x y j z hx hz; exact (ho.lt b hb).2
      | b s j => obtain ⟨x, y, z, hx, hz⟩ := hq; obtain ⟨u, _, ho⟩ := h.ob s x y j z hx hz; exact (ho.lt b hb).2
  have sub : ∀ q, L1.has q → L.has q ∧ q ≠ .box d ∧ ∀ k, q ≠ .own (.b d k) := by
    intro q hq
    cases q with
    | box k =>
      obtain ⟨x, hx⟩ := hq
      by_cases ek : k = d
      · simp [L1, ek] at hx
      · simp only [L1, if_neg ek] at hx; exact ⟨⟨x, hx⟩, by simpa using ek, by simp⟩
    | row k => exact ⟨hq, by simp, by simp⟩
    | own p =>
      cases p with
      | t s j =>
        obtain ⟨x, y, z, hx, hz⟩ := hq
        by_cases ek : s = d
        · simp [L1, ek] at hx
        · simp only [L1, if_neg ek] at hx; exact ⟨⟨x, y, z, hx, hz⟩, by simp, by simp⟩
      | b s j =>
        obtain ⟨x, y, z, hx, hz⟩ := hq
        by_cases ek : s = d
        · simp [L1, ek] at hx
        · simp only [L1, if_neg ek] at hx; exact ⟨⟨x, y, z, hx, hz⟩, by simp, by simpa using ek⟩
  let G' : Gho := { X := X', bx := fun k => if k = d then w.heap.size else G.bx k, rx := G.rx, ow := fun p => match p with | .b k j => if k = d then od j else G.ow p | p => G.ow p }
  have blkeq : ∀ q, L1.has q → G'.blk q = G.blk q := by
    intro q hq
    obtain ⟨_, h2, h3⟩ := sub q hq
    cases q with
    | box k => have : k ≠ d := by simpa using h2
               simp [Gho.blk, G', this]
    | row k => rfl
    | own p =>
      cases p with
      | t s j => rfl
      | b s j => have : s ≠ d := by simpa using h3 j
                 simp [Gho.blk, G', this]
  have h3 : Inv P w0 X0 n (L1.upd (.b d (cs, own))) a (w.alloc (.cells us e)) G' := by
    refine ⟨h2.size, h2.dfr, h2.bel, h2.old, h2.new, ?_, ?_, ?_, ?_, ?_, ?_⟩
    · intro s sv ow hs
      have := h2.tm s sv ow hs
      refine ⟨this.1, ?_⟩
      have r := this.2
      by_cases es : s = d
      · simp [Look.upd, L1, es] at hs
      · simp only [Look.upd, L1, if_neg es] at hs
        cases sv with
        | v x => exact r
        | ptr k off =>
          have : k ≠ d := fun ek => hnp s off ow es (by rw [hs, ek])
          simpa [RelS, G', this] using r
        | arr k => exact r
        | aptr k i off => exact r
    · intro k ks ko hk
      by_cases ek : k = d
      · subst ek
        simp only [Look.upd, if_pos] at hk
        cases hk
        refine ⟨by simp [G']; exact hw0, by simp [G', X'], us, e, by simpa [G'] using hnew, RelL.mono hE _ _ hrel⟩
      · simp only [Look.upd, if_neg ek] at hk
        have := h2.bo k ks ko hk
        simpa [G', ek] using this
    · intro k sz rows hk
      exact h2.ro k sz rows hk
    · intro s sv ow j t hs hj
      exact h2.ot s sv ow j t hs hj
    · intro k ks ko j t hk hj
      by_cases ek : k = d
      · subst ek
        simp only [Look.upd, if_pos] at hk
        cases hk
        obtain ⟨c, hc, hoc⟩ := ho j t hj
        refine ⟨c, ?_, ?_⟩
        · simp only [G', if_pos]; rw [cell_row hnew]; exact hc
        · simp only [G', if_pos]; exact hoc.below hBel hXe
      · simp only [Look.upd, if_neg ek] at hk
        have := h2.ob k ks ko j t hk hj
        simpa [G', ek] using this
    · have cls : ∀ q, (L1.upd (.b d (cs, own))).has q → L1.has q ∨ q = .box d ∨ ∃ j t, q = .own (.b d j) ∧ (j, t) ∈ own := by
        intro q hq
        cases q with
        | box k =>
          by_cases ek : k = d
          · exact .inr (.inl (by rw [ek]))
          · obtain ⟨x, hx⟩ := hq; simp only [Look.upd, if_neg ek] at hx; exact .inl ⟨x, hx⟩
        | row k => exact .inl hq
        | own p =>
          cases p with
          | t s j => exact .inl hq
          | b s j =>
            obtain ⟨x, y, z, hx, hz⟩ := hq
            by_cases ek : s = d
            · subst ek; simp only [Look.upd, if_pos] at hx; cases hx; exact .inr (.inr ⟨j, z, rfl, hz⟩)
            · simp only [Look.upd, if_neg ek] at hx; exact .inl ⟨x, y, z, hx, hz⟩
      have bd : G'.blk (.box d) = some w.heap.size := by simp [Gho.blk, G']
      have od' : ∀ j, G'.blk (.own (.b d j)) = od j := fun j => by simp [Gho.blk, G']
      have odlt : ∀ j t b, (j, t) ∈ own → od j = some b → b < w.heap.size := fun j t b hj hb => by
        obtain ⟨c, _, hoc⟩ := ho j t hj; exact (hoc.lt b hb).2
      intro p q b hp hq hbp hbq
      rcases cls p hp with hp | rfl | ⟨j, t, rfl, hj⟩ <;> rcases cls q hq with hq | rfl | ⟨k, t', rfl, hk⟩
      · exact h.dist p q b (sub p hp).1 (sub q hq).1 (by rw [← blkeq p hp]; exact hbp) (by rw [← blkeq q hq]; exact hbq)
      · have := hlt p b (sub p hp).1 (by rw [← blkeq p hp]; exact hbp)
        rw [bd] at hbq; cases hbq; omega
      · exact absurd (by rw [← blkeq p hp]; exact hbp) (hd2 k t' p b hk (sub p hp).1 (by rw [← od']; exact hbq))
      · have := hlt q b (sub q hq).1 (by rw [← blkeq q hq]; exact hbq)
        rw [bd] at hbp; cases hbp; omega
      · rfl
      · have := odlt k t' b hk (by rw [← od']; exact hbq)
        rw [bd] at hbp; cases hbp; omega
      · exact absurd (by rw [← blkeq q hq]; exact hbq) (hd2 j t q b hj (sub q hq).1 (by rw [← od']; exact hbp))
      · have := odlt j t b hj (by rw [← od']; exact hbp)
        rw [bd] at hbq; cases hbq; omega
      · have := hd1 j t k t' b hj hk (by rw [← od']; exact hbp) (by rw [← od']; exact hbq)
        rw [this]
  have hfin := h3.setT0 (d := d) (sv := .ptr d 0) (u := .pointer (some ⟨w.heap.size, 0, none⟩)) hd (by simp [RelS, G'])
  have eL : (L1.upd (.b d (cs, own))).upd (.t d (.ptr d 0, [])) = (L.upd (.b d (cs, own))).upd (.t d (.ptr d 0, [])) := by
    simp only [Look.upd, L1]
    congr 1
    · funext k; by_cases ek : k = d <;> simp [ek]
    · funext k; by_cases ek : k = d <;> simp [ek]
  rw [← eL]; exact hfin
end Go.Av

/- Arrays of the call's own: made, written, given out of hand; boxes given out of hand. -/
namespace Go.Av
open Go.RowKit
variable {P : Program} {w0 : World} {X0 : Gh} {n : Nat} {L : Look} {a : Act} {w w' : World} {G : Gho}

theorem Look.blk_lt (h : Inv P w0 X0 n L a w G) : ∀ q b, L.has q → G.blk q = some b → b < w.heap.size := by
  intro q b hq hb
  cases q with
  | box k => obtain ⟨⟨x, y⟩, hx⟩ := hq; obtain ⟨_, _, us', e', h3, _⟩ := h.bo k x y hx; simp [Gho.blk] at hb; subst hb; exact (Array.getElem?_eq_some_iff.1 h3).1
  | row k => obtain ⟨⟨x, y⟩, hx⟩ := hq; obtain ⟨_, _, _, us', e', h3, _⟩ := h.ro k x y hx; simp [Gho.blk] at hb; subst hb; exact (Array.getElem?_eq_some_iff.1 h3).1
  | own p =>
    cases p with
    | t s j => obtain ⟨x, y, z, hx, hz⟩ := hq; obtain ⟨u, _, ho⟩ := h.ot s x y j z hx hz; exact (ho.lt b hb).2
    | b s j => obtain ⟨x, y, z, hx, hz⟩ := hq; obtain ⟨u, _, ho⟩ := h.ob s x y j z hx hz; exact (ho.lt b hb).2

/-- An array's content turns. -/
theorem Inv.setRow (h : Inv P w0 X0 n L a w G) {d sz : Nat} {rows rows' : List (List AV)} (hd : L.r d = some (sz, rows)) (hlen : rows'.length = rows.length) (hsz : ∀ c ∈ rows', c.length = sz)
    (hw : Wrote w w' (G.rx d)) {us : Array Value} {e : TypeId}
    (hu : w'.heap[G.rx d]? = some (.cells us e (0, 0))) (hrel : RelL G.X w' rows'.flatten us.toList) :
    Inv P w0 X0 n (L.upd (.r d (sz, rows'))) a w' G := by
  obtain ⟨hb1, hb2, hb2', us0, e0, hb3, hb4⟩ := h.ro d sz rows hd
  have hE : Ext G.X w G.X w' := hw.ext hb2
  have hhas : L.has (.row d) := ⟨_, hd⟩
  have notrx : ∀ q, L.has q → q ≠ .row d → G.blk q ≠ some (G.rx d) := fun q hq hne e => hne (h.dist q (.row d) (G.rx d) hq hhas e rfl)
  have key : ∀ q : EP, (L.upd (.r d (sz, rows'))).has q → L.has q := by
    intro q hq
    cases q with
    | box k => exact hq
    | row k =>
      by_cases ek : k = d
      · subst ek; exact hhas
      · obtain ⟨x, hx⟩ := hq; simp only [Look.upd, if_neg ek] at hx; exact ⟨x, hx⟩
    | own p => cases p <;> exact hq
  refine ⟨h.size, h.dfr, h.bel.trans (hw.below hb1), h.old, ?_, ?_, ?_, ?_, ?_, ?_, ?_⟩
  · intro b hb; rw [hw.size] at hb; exact h.new b hb
  · intro s sv own hs
    have := h.tm s sv own hs
    refine ⟨this.1, ?_⟩
    have r := RelS.mono (G' := G) hE rfl rfl this.2
    cases sv with
    | v x => exact r
    | ptr k off => exact r
    | arr k =>
      intro sz2 rows2 hk
      by_cases ek : k = d
      · subst ek; simp only [Look.upd, if_pos] at hk; cases hk; rw [hlen]; exact r _ _ hd
      · simp only [Look.upd, if_neg ek] at hk; exact r _ _ hk
    | aptr k i off =>
      intro sz2 rows2 hk
      by_cases ek : k = d
      · subst ek; simp only [Look.upd, if_pos] at hk; cases hk; exact r _ _ hd
      · simp only [Look.upd, if_neg ek] at hk; exact r _ _ hk
  · intro k ks ko hk
    obtain ⟨h1, h2, us', e', h3, h4⟩ := h.bo k ks ko hk
    have hne : G.bx k ≠ G.rx d := fun e => notrx (.box k) ⟨_, hk⟩ (by simp) (by simp [Gho.blk, e])
    exact ⟨h1, h2, us', e', (hw.block _ hne).trans h3, RelL.mono hE _ _ h4⟩
  · intro k sz2 rows2 hk
    by_cases ek : k = d
    · subst ek; simp only [Look.upd, if_pos] at hk; cases hk
      exact ⟨hb1, hb2, hsz, us, e, hu, hrel⟩
    · simp only [Look.upd, if_neg ek] at hk
      obtain ⟨h1, h2, h2', us', e', h3, h4⟩ := h.ro k sz2 rows2 hk
      have hne : G.rx k ≠ G.rx d := fun e => notrx (.row k) ⟨_, hk⟩ (by simpa using ek) (by simp [Gho.blk, e])
      exact ⟨h1, h2, h2', us', e', (hw.block _ hne).trans h3, RelL.mono hE _ _ h4⟩
  · intro s sv ow j t hs hj
    obtain ⟨u, hu', ho'⟩ := h.ot s sv ow j t hs hj
    exact ⟨u, hu', ho'.wrote hw (fun e => notrx (.own (.t s j)) ⟨sv, ow, t, hs, hj⟩ (by simp) (by simpa [Gho.blk] using e))⟩
  · intro k ks ko j t hk hj
    obtain ⟨u, hu', ho'⟩ := h.ob k ks ko j t hk hj
    have hne : G.bx k ≠ G.rx d := fun e => notrx (.box k) ⟨_, hk⟩ (by simp) (by simp [Gho.blk, e])
    refine ⟨u, by rw [World.cell?_of_block (w := w) (a := ⟨G.bx k, j, none⟩) (hw.block _ hne)]; exact hu', ?_⟩
    exact ho'.wrote hw (fun e => notrx (.own (.b k j)) ⟨ks, ko, t, hk, hj⟩ (by simp) (by simpa [Gho.blk] using e))
  · intro p q b hp hq
    exact h.dist p q b (key p hp) (key q hq)

/-- A new array takes the place of whatever the slot had. -/
theorem Inv.newRow (h : Inv P w0 X0 n L a w G) {d : Nat} (hd : d < n) (hnp : ∀ s own, s ≠ d → L.t s ≠ some (.arr d, own)) (hnq : ∀ s i off own, s ≠ d → L.t s ≠ some (.aptr d i off, own))
    {us : Array Value} {sz : Nat} {rows : List (List AV)} {e : TypeId} (hsz : ∀ c ∈ rows, c.length = sz) (hrel : RelL G.X w rows.flatten us.toList) :
    SR P w0 X0 n ((L.upd (.r d (sz, rows))).upd (.t d (.arr d, []))) (a.put (some d) (.slice (some ⟨w.heap.size, 0, none⟩) rows.length rows.length)) (w.alloc (.cells us e)) := by
  let L1 : Look := { L with t := fun k => if k = d then none else L.t k, r := fun k => if k = d then none else L.r k }
  have h1 : Inv P w0 X0 n L1 a w G := by
    refine h.less ?_ (fun k x own hx => ⟨own, hx, fun x hx => hx⟩) ?_
    · intro s sv ow hs
      by_cases es : s = d
      · simp [L1, es] at hs
      · simp only [L1, if_neg es] at hs; exact ⟨ow, hs, fun x hx => hx⟩
    · intro s e hs
      by_cases es : s = d
      · simp [L1, es] at hs
      · simp only [L1, if_neg es] at hs; exact hs
  have hBel : Below w.heap.size w (w.alloc (.cells us e)) := (Below.refl _ _).alloc (Nat.le_refl _) _
  let X' : Gh := fun b => if b = w.heap.size then some 0 else G.X b
  have hXe : ∀ b, b < w.heap.size → X' b = G.X b := fun b hb => by simp only [X']; rw [if_neg (by omega)]
  have h2 := h1.grow (X' := X') hBel hXe (fun b hb => by
    simp only [World.size_alloc] at hb
    simp only [X']; rw [if_neg (by omega)]; exact h.new b (by omega))
  have hE : Ext G.X w X' (w.alloc (.cells us e)) := Ext.below hBel hXe
  have hnew : (w.alloc (.cells us e)).heap[w.heap.size]? = some (.cells us e (0, 0)) := heap_alloc_new w _
  have hw0 : w0.heap.size ≤ w.heap.size := h.bel.size
  have hlt := Look.blk_lt h
  have sub : ∀ q, L1.has q → L.has q ∧ q ≠ .row d := by
    intro q hq
    cases q with
    | row k =>
      obtain ⟨x, hx⟩ := hq
      by_cases ek : k = d
      · simp [L1, ek] at hx
      · simp only [L1, if_neg ek] at hx; exact ⟨⟨x, hx⟩, by simpa using ek⟩
    | box k => exact ⟨hq, by simp⟩
    | own p =>
      cases p with
      | t s j =>
        obtain ⟨x, y, z, hx, hz⟩ := hq
        by_cases ek : s = d
        · simp [L1, ek] at hx
        · simp only [L1, if_neg ek] at hx; exact ⟨⟨x, y, z, hx, hz⟩, by simp⟩
      | b s j => exact ⟨hq, by simp⟩
  let G' : Gho := { X := X', bx := G.bx, rx := fun k => if k = d then w.heap.size else G.rx k, ow := G.ow }
  have blkeq : ∀ q, L1.has q → G'.blk q = G.blk q := by
    intro q hq
    obtain ⟨_, h2⟩ := sub q hq
    cases q with
    | row k => have : k ≠ d := by simpa using h2
               simp [Gho.blk, G', this]
    | box k => rfl
    | own p => cases p <;> rfl
  have h3 : Inv P w0 X0 n (L1.upd (.r d (sz, rows))) a (w.alloc (.cells us e)) G' := by
    refine ⟨h2.size, h2.dfr, h2.bel, h2.old, h2.new, ?_, ?_, ?_, ?_, ?_, ?_⟩
    · intro s sv ow hs
      have := h2.tm s sv ow hs
      refine ⟨this.1, ?_⟩
      have r := this.2
      by_cases es : s = d
      · simp [Look.upd, L1, es] at hs
      · simp only [Look.upd, L1, if_neg es] at hs
        cases sv with
        | v x => exact r
        | ptr k off => exact r
        | arr k =>
          have hk : k ≠ d := fun ek => hnp s ow es (by rw [hs, ek])
          intro sz2 rows2 h5
          simp only [Look.upd, if_neg hk] at h5
          have := r sz2 rows2 h5
          simpa [G', hk] using this
        | aptr k i off =>
          have hk : k ≠ d := fun ek => hnq s i off ow es (by rw [hs, ek])
          intro sz2 rows2 h5
          simp only [Look.upd, if_neg hk] at h5
          have := r sz2 rows2 h5
          simpa [G', hk] using this
    · intro k ks ko hk
      exact h2.bo k ks ko hk
    · intro k sz2 rows2 hk
      by_cases ek : k = d
      · subst ek
        simp only [Look.upd, if_pos] at hk
        cases hk
        exact ⟨by simp [G']; exact hw0, by simp [G', X'], hsz, us, e, by simpa [G'] using hnew, RelL.mono hE _ _ hrel⟩
      · simp only [Look.upd, if_neg ek] at hk
        have := h2.ro k sz2 rows2 hk
        simpa [G', ek] using this
    · intro s sv ow j t hs hj
      exact h2.ot s sv ow j t hs hj
    · intro k ks ko j t hk hj
      exact h2.ob k ks ko j t hk hj
    · have cls : ∀ q, (L1.upd (.r d (sz, rows))).has q → L1.has q ∨ q = .row d := by
        intro q hq
        cases q with
        | row k =>
          by_cases ek : k = d
          · exact .inr (by rw [ek])
          · obtain ⟨x, hx⟩ := hq; simp only [Look.upd, if_neg ek] at hx; exact .inl ⟨x, hx⟩
        | box k => exact .inl hq
        | own p => cases p <;> exact .inl hq
      have bd : G'.blk (.row d) = some w.heap.size := by simp [Gho.blk, G']
      intro p q b hp hq hbp hbq
      rcases cls p hp with hp | rfl <;> rcases cls q hq with hq | rfl
      · exact h.dist p q b (sub p hp).1 (sub q hq).1 (by rw [← blkeq p hp]; exact hbp) (by rw [← blkeq q hq]; exact hbq)
      · have := hlt p b (sub p hp).1 (by rw [← blkeq p hp]; exact hbp)
        rw [bd] at hbq; cases hbq; omega
      · have := hlt q b (sub q hq).1 (by rw [← blkeq q hq]; exact hbq)
        rw [bd] at hbp; cases hbp; omega
      · rfl
  have hfin := h3.setT0 (d := d) (sv := .arr d) (u := .slice (some ⟨w.heap.size, 0, none⟩) rows.length rows.length) hd (by
    intro sz2 rows2 hk
    simp only [Look.upd, if_pos] at hk
    cases hk
    simp [G'])
  have eL : (L1.upd (.r d (sz, rows))).upd (.t d (.arr d, [])) = (L.upd (.r d (sz, rows))).upd (.t d (.arr d, [])) := by
    simp only [Look.upd, L1]
    congr 1
    · funext k; by_cases ek : k = d <;> simp [ek]
    · funext k; by_cases ek : k = d <;> simp [ek]
  rw [← eL]; exact hfin

/-! memory of one's own, leant on -/
theorem relC_of {X X' : Gh} (hE : Ext X w X' w) {b : Nat} : ∀ (cs : List AV) (vs : List Value) (o : Nat), RelL X w cs vs → (∀ j u, vs[j]? = some u → w.cell? ⟨b, o + j, none⟩ = some u) →
    (∀ j, j < cs.length → okc X' b (o + j)) → RelC X' w b o cs
  | [], _, _, _, _, _ => trivial
  | c :: cs, _, o, ⟨u, r, e, h1, h2⟩, hc, hk => by
    subst e
    refine ⟨⟨u, hc 0 u rfl, hk 0 (by simp), Rel.mono hE _ _ h1⟩, relC_of hE cs r (o + 1) h2 (fun j v hj => ?_) (fun j hj => ?_)⟩
    · have := hc (j + 1) v (by simpa using hj)
      rwa [show o + (j + 1) = o + 1 + j by omega] at this
    · have := hk (j + 1) (by simpa using hj)
      rwa [show o + (j + 1) = o + 1 + j by omega] at this

theorem relE_of {X X' : Gh} (hE : Ext X w X' w) {b sz : Nat} : ∀ (rows : List (List AV)) (vs : List Value) (o : Nat), (∀ c ∈ rows, c.length = sz) → RelL X w rows.flatten vs →
    (∀ j u, vs[j]? = some u → w.cell? ⟨b, o + j, none⟩ = some u) → (∀ j, j < rows.length * sz → okc X' b (o + j)) → RelE X' w sz b o rows
  | [], _, _, _, _, _, _ => trivial
  | c :: rows, vs, o, hl, hr, hc, hk => by
    have hc1 : c.length = sz := hl c (by simp)
    have hlen : (c :: rows).length * sz = sz + rows.length * sz := by simp [Nat.add_mul]; omega
    rw [hlen] at hk
    rw [List.flatten_cons] at hr
    have h1 := RelL.take c.length hr
    rw [List.take_left] at h1
    have h2 := RelL.drop c.length hr
    rw [List.drop_left] at h2
    rw [hc1] at h1 h2
    refine ⟨hc1, relC_of hE c _ o h1 (fun j u hj => hc j u ?_) (fun j hj => hk j (by omega)), relE_of hE rows _ (o + sz) (fun c' h' => hl c' (by simp [h'])) h2 (fun j u hj => ?_) (fun j hj => ?_)⟩
    · rw [List.getElem?_take] at hj
      split at hj
      · exact hj
      · cases hj
    · rw [List.getElem?_drop] at hj
      have := hc (sz + j) u hj
      rwa [← Nat.add_assoc] at this
    · have := hk (sz + j) (by omega)
      rwa [← Nat.add_assoc] at this
end Go.Av

/- What the evaluator makes of one operation. -/
namespace Go.Av
open Go.RowKit

abbrev Hint := Option AV × OwnL

structure Res where
  sv : SV
  own : OwnL
  pre : List Upd
  obs : List Prop

def fin (v : AV) (h : Hint) (obs : List Prop) : Option Res :=
  match h.1 with
  | some v' => some ⟨.v v', [], [], obs ++ [v = v']⟩
  | none => some ⟨.v v, [], [], obs⟩

def grab (L : Look) (x : Operand) (b : Bool) : Option (SV × OwnL × List Upd) :=
  match x with
  | .tmp t => match L.t t with
    | some (sv, own) => match b, own with
      | true, _ :: _ => some (sv, own, [.t t (sv, [])])
      | _, _ => some (sv, [], [])
    | none => none
  | x => match ev L x with
    | some (sv, _) => some (sv, [], [])
    | none => none

/-- Has a value cells? -/
def AV.solid : AV → Bool
  | .undef | .tup _ => false
  | _ => true

/-- A value of one cell, and which it is, is known. -/
def AV.leaf : AV → Bool
  | .undef | .tup _ | .agg _ => false
  | _ => true

def setAll {α : Type} (cs : List α) (off : Nat) : List α → List α
  | [] => cs
  | c :: r => setAll (cs.set off c) (off + 1) r

def placesOf (P : Program) : List Field → Option (List (Nat × Nat))
  | [] => some []
  | f :: fs => match sizeP P f.type, placesOf P fs with | some s, some r => some ((f.offset, s) :: r) | _, _ => none

def buildC (L : Look) (ps : List (Nat × Nat)) : List (Nat × Operand) → List AV → Option (List AV)
  | [], cs => some cs
  | (i, x) :: r, cs => match ps[i]?, evV L x with
    | some (off, s), some a => if a.solid && Nat.beq a.cells.length s && Nat.ble (off + s) cs.length then buildC L ps r (setAll cs off a.cells) else none
    | _, _ => none

def partsC (L : Look) (s : Nat) : Nat → List (Nat × Operand) → Option (List (List AV))
  | _, [] => some []
  | k, (i, x) :: r => match evV L x, partsC L s (k + 1) r with
    | some a, some as => if Nat.beq i k && a.solid && Nat.beq a.cells.length s then some (a.cells :: as) else none
    | _, _ => none

def zeroOwn (P : Program) (T : TypeId) : OwnL :=
  match (P.info? T).bind (·.zero) with
  | some z => (slicesIn P 8 0 T).filter fun p => match z.cells[p.1]? with | some (.slice none 0 0) => (sizeP P p.2).isSome | _ => false
  | none => []

def inRange (lo n : Nat) (p : Nat × TypeId) : Bool := Nat.ble lo p.1 && Nat.blt p.1 (lo + n)

/-- The byte at a place of a text. -/
def bt (s : ByteArray) (i : Int) : Int := (((s[i.toNat]?).getD 0).toNat : Int)

def sumOk (x y : ByteArray) : Prop := ((x.size + y.size : Nat) : Int) ≤ 9223372036854775807

def sliceLen : AV → Option Int
  | .sl xs => some xs.length
  | .str s => some s.size
  | _ => none

def intOfP (P : Program) (t : TypeId) : Option IntKind := match P.underlying t with | some (.int k) => some k | _ => none

def optInt (L : Look) : Option Operand → Option (Option Int)
  | none => some none
  | some x => match evV L x with | some (.int _ n) => some (some n) | _ => none

/-- What a function of the program does with values: it tells r, of which 'own' is its caller's alone, and touches nothing. -/
def FnC (P : Program) (f : Nat) (args : List AV) (r : AV) (own : OwnL) : Prop :=
  ∀ (X : Gh) (w : World) (us : List Value), RelL X w args us → (∀ b, w.heap.size ≤ b → X b = none) →
    Calls P f us.toArray w fun e w' => ∃ (u : Value) (X' : Gh) (od : Nat → Option Nat), e = .returned u ∧ Below w.heap.size w w' ∧ (∀ b, b < w.heap.size → X' b = X b) ∧ (∀ b, w'.heap.size ≤ b → X' b = none) ∧ Rel X' w' r u ∧
      (∀ j t, (j, t) ∈ own → ∃ c, (Value.flat u)[j]? = some c ∧ OwnOk P X' w' w.heap.size (od j) t c) ∧
      (∀ j t k t' b, (j, t) ∈ own → (k, t') ∈ own → od j = some b → od k = some b → j = k)

def aOp (P : Program) (n : Nat) (L : Look) (wants : Nat → Bool) (o : Oper) (h : Hint) : Option Res :=
  match o.dst with
  | none => none
  | some d => if Nat.blt d n then
    match o.op with
    | .move x => match grab L x (wants d) with
      | some (sv, own, pre) => some ⟨sv, if isNilC x then (match elemP P o.type with | some e => if (sizeP P e).isSome then [(0, e)] else [] | none => []) else own, pre, []⟩
      | none => none
    | .assign x => match grab L x true with
      | some (sv, own, pre) => some ⟨sv, if isNilC x then (match elemP P o.type with | some e => if (sizeP P e).isSome then [(0, e)] else [] | none => []) else own, pre, []⟩
      | none => none
    | .pick c a b => match evV L c with
      | some (.bool true) => match ev L a with | some (sv, _) => some ⟨sv, [], [], []⟩ | none => none
      | some (.bool false) => match ev L b with | some (sv, _) => some ⟨sv, [], [], []⟩ | none => none
      | _ => none
    | .alloc T => match zeroP P T with | some zs => some ⟨.ptr d 0, [], [.f d, .b d (zs, zeroOwn P T)], []⟩ | none => none
    | .box T x => match grab L x true with | some (.v a, own, pre) => if a.solid then some ⟨.ptr d 0, [], pre ++ [.f d, .b d (a.cells, own)], []⟩ else none | _ => none
    | .build T parts => match zeroP P T, P.underlying T with
      | some zs, some (.struct fs) => match placesOf P fs.toList with
        | some ps => match buildC L ps parts.toList zs with | some cs => some ⟨.v (.agg cs), [], [], []⟩ | none => none
        | none => none
      | _, _ => none
    | .buildSlice T len parts => match elemP P T with
      | some e => match sizeP P e with
        | some s => match partsC L s 0 parts.toList with
          | some as => if Nat.beq as.length len && Nat.blt 0 s && Nat.ble (len * s) 16777216 && (zeroP P e).isSome then some ⟨.v (.sl as), [(0, e)], [], []⟩ else none
          | none => none
        | none => none
      | none => none
    | .load T x => match isAggP P T, sizeP P T, ev L x with
      | some ag, some s, some (.ptr k off, _) => match L.b k with
        | some (cs, own) =>
          if Nat.ble (off + s) cs.length && (ag || Nat.beq s 1) then
            match ofCells ag ((cs.drop off).take s), wants d, own with
            | some v, true, _ :: _ => some ⟨.v v, ownShift off s own, [.b k (cs, own.filter fun p => !inRange off s p)], []⟩
            | some v, _, _ => some ⟨.v v, [], [], []⟩
            | none, _, _ => none
          else none
        | none => none
      | some ag, some s, some (.v (.vptr cs), _) => if ag || Nat.beq s 1 then (match ofCells ag (cs.take s) with | some v => fin v h [s ≤ cs.length] | none => none) else none
      | some ag, some s, some (.aptr k i off, _) => match L.r k, h.1 with
        | some (sz, rows), some v => if ag || Nat.beq s 1 then some ⟨.v v, [], [], [∃ c, rows[i]? = some c ∧ off + s ≤ c.length ∧ ofCells ag ((c.drop off).take s) = some v]⟩ else none
        | _, _ => none
      | _, _, _ => none
    | .fieldAddr S x f => match fieldP P S f, ev L x with
      | some (off, ft), some (sv, _) => match sizeP P ft with
        | some (_ + 1) => match sv with
          | .ptr k o => some ⟨.ptr k (o + off), [], [], []⟩
          | .v (.vptr cs) => some ⟨.v (.vptr (cs.drop off)), [], [], []⟩
          | .aptr k i o => match L.r k with | some _ => some ⟨.aptr k i (o + off), [], [], []⟩ | none => none
          | _ => none
        | _ => none
      | _, _ => none
    | .field S x f => match fieldP P S f, evV L x with
      | some (off, ft), some (.agg cs) => match sizeP P ft, isAggP P ft with
        | some s, some ag => if Nat.ble (off + s) cs.length && (ag || Nat.beq s 1) then (match ofCells ag ((cs.drop off).take s) with | some v => some ⟨.v v, [], [], []⟩ | none => none) else none
        | _, _ => none
      | _, _ => none
    | .indexAddr T x i => match elemP P T, evV L i with
      | some e, some (.int _ m) => match sizeP P e, ev L x, h.1 with
        | some s, some (.v (.sl xs), _), some (.vptr c) => some ⟨.v (.vptr c), [], [], [0 ≤ m ∧ xs[m.toNat]? = some c ∧ c.length = s]⟩
        | some s, some (.arr k, _), _ => match L.r k with
          | some (sz, rows) => if Nat.beq sz s then some ⟨.aptr k m.toNat 0, [], [], [0 ≤ m ∧ m.toNat < rows.length]⟩ else none
          | none => none
        | _, _, _ => none
      | _, _ => none
    | .index T x i => match isStrP P T, evV L x, evV L i with
      | true, some (.str s), some (.int _ m) => fin (.int .u8 (bt s m)) h [0 ≤ m ∧ m.toNat < s.size]
      | _, _, _ => none
    | .binOp op T x y _ => match evV L x, evV L y with
      | some (.int k a), some (.int k' b) => match op with
        | .quo => if k = k' then fin (.int k (k.wrap (a.tdiv b))) h [b ≠ 0] else none
        | .rem => if k = k' then fin (.int k (a.tmod b)) h [b ≠ 0] else none
        | .shl | .shr => none
        | op => if k = k' then (match binI op k a b with | some v => fin v h [] | none => none) else none
      | some (.str a), some (.str b) => match op with
        | .add => fin (.str (a ++ b)) h [sumOk a b]
        | op => match binS op a b with | some v => fin v h [] | none => none
      | some (.bool a), some (.bool b) => match op, P.underlying T with
        | .eql, some .bool => fin (.bool (a == b)) h []
        | .neq, some .bool => fin (.bool (!(a == b))) h []
        | _, _ => none
      | _, _ => none
    | .unOp op _ x => match op, evV L x with
      | .neg, some (.int k m) => fin (.int k (k.wrap (0 - m))) h []
      | .not, some (.bool b) => fin (.bool (!b)) h []
      | _, _ => none
    | .convert src dst x => match evV L x with
      | some (.int _ m) => match intOfP P dst with | some k => if (P.underlying src).isSome then fin (.int k (k.wrap m)) h [] else none | none => none
      | some (.str s) => if isStrP P dst && isStrP P src then fin (.str s) h [] else none
      | _ => none
    | .extract x i => match evV L x with
      | some (.tup vs) => match vs[i]? with | some v => some ⟨.v v, [], [], []⟩ | none => none
      | _ => none
    | .nilCheck x => match ev L x with
      | some (.ptr k o, _) => some ⟨.ptr k o, [], [], []⟩
      | some (.v (.vptr cs), _) => some ⟨.v (.vptr cs), [], [], []⟩
      | some (.aptr k i o, _) => match L.r k with | some _ => some ⟨.aptr k i o, [], [], []⟩ | none => none
      | _ => none
    | .makeSlice T l c => match elemP P T, evV L l, evV L c with
      | some e, some (.int _ m), some (.int _ m') => match sizeP P e, zeroP P e, bytesP P e with
        | some s, some zs, some by' => if Nat.beq zs.length s && Nat.blt 0 s && Nat.ble by' 4096 then some ⟨.arr d, [], [.f d, .r d (s, List.replicate m.toNat zs)], [0 ≤ m ∧ m' = m ∧ m ≤ 1073741824]⟩ else none
        | _, _, _ => none
      | _, _, _ => none
    | .slice T x lo hi none => match evV L x, optInt L lo, optInt L hi with
      | some (.str s), some l, some hh => if isStrP P T then
          fin (.str (s.extract (l.getD 0).toNat (hh.getD s.size).toNat)) h [0 ≤ l.getD 0 ∧ l.getD 0 ≤ hh.getD s.size ∧ hh.getD s.size ≤ s.size]
        else none
      | some (.sl xs), some l, some hh => match elemP P T with
        | some e => match sizeP P e with
          | some s => some ⟨.v (.sl ((xs.take (hh.getD xs.length).toNat).drop (l.getD 0).toNat)), [], [], [0 ≤ l.getD 0 ∧ l.getD 0 ≤ hh.getD xs.length ∧ hh.getD xs.length ≤ xs.length ∧ ∀ c ∈ xs, c.length = s]⟩
          | none => none
        | none => none
      | _, _, _ => none
    | .makeFunc (.func f) first captured => match evVs L captured.toList with
      | some caps => if first.size = 0 then some ⟨.v (.func f caps), [], [], []⟩ else none
      | none => none
    | .call c => match c.callee, evVs L c.args.toList with
      | .value g, some as => match evV L g, h.1 with
        | some (.func f caps), some r => if ((P.funcs[f]?).map fun fn => fn.body.isSome && fn.name != "runtime.NumGoroutine") = some true then some ⟨.v r, h.2, [], [FnC P f (as ++ caps) r h.2]⟩ else none
        | _, _ => none
      | .builtin .len, some [v] => match (c.argTypes[0]?).bind P.underlying, v with
        | some (.slice _), .sl xs => fin (.int .i64 xs.length) h []
        | some .string, .str s => fin (.int .i64 s.size) h []
        | _, _ => none
      | .builtin .max, some [.int k a, .int k' b] => if k = k' then fin (.int k (if b > a then b else a)) h [] else none
      | .builtin .min, some [.int k a, .int k' b] => if k = k' then fin (.int k (if b < a then b else a)) h [] else none
      | _, _ => none
    | _ => none
  else none

/-- An append: the slice is its slot's alone. -/
def aAppend (P : Program) (n : Nat) (L : Look) (o : Oper) : Option Res :=
  match o.dst, o.op with
  | some d, .call c => match c.callee, c.args.toList, c.argTypes.toList with
    | .builtin .append, [s, y], [t1, t2] => if Nat.blt d n && Nat.beq t1 t2 then
        match elemP P t1, evV L y with
        | some e, some (.sl ys) => match sizeP P e, bytesP P e, zeroP P e with
          | some sz, some by', some zs => if Nat.beq zs.length sz && Nat.blt 0 sz && Nat.ble by' 4096 then
              match s with
              | .tmp k => match L.t k with
                | some (.v (.sl xs), own) => if own.contains (0, e) then some ⟨.v (.sl (xs ++ ys)), [(0, e)], [.t k (.v (.sl xs), [])], [xs.length + ys.length ≤ 1073741824 ∧ (∀ c ∈ xs, c.length = sz) ∧ (∀ c ∈ ys, c.length = sz ∧ c.all AV.leaf = true)]⟩ else none
                | _ => none
              | .const (.slice none 0 0) => some ⟨.v (.sl ys), [(0, e)], [], [ys.length ≤ 1073741824 ∧ (∀ c ∈ ys, c.length = sz ∧ c.all AV.leaf = true)]⟩
              | _ => none
            else none
          | _, _, _ => none
        | _, _ => none
      else none
    | _, _, _ => none
  | _, _ => none

/-- A store. -/
def aStore (P : Program) (L : Look) (o : Oper) : Option (List Upd × List Prop) :=
  match o.dst, o.op with
  | none, .store T x y => match sizeP P T, ev L x, grab L y true with
    | some s, some (.ptr k off, _), some (.v a, own, pre) => match L.b k with
      | some (cs, own0) => if a.solid && a.cells.all AV.leaf && Nat.beq a.cells.length s && Nat.ble (off + s) cs.length then
          some (pre ++ [.b k (setAll cs off a.cells, (own0.filter fun p => !inRange off s p) ++ own.map fun p => (off + p.1, p.2))], [])
        else none
      | none => none
    | some s, some (.aptr k i off, _), some (.v a, _, _) => match L.r k with
      | some (sz, rows) => if a.solid && a.cells.all AV.leaf && Nat.beq a.cells.length s && Nat.ble (off + s) sz then some ([.r k (sz, rows.modify i fun c => setAll c off a.cells)], [i < rows.length]) else none
      | none => none
    | _, _, _ => none
  | _, _ => none
end Go.Av

/- That the operations do what the evaluator says: numbers, texts, moves. -/
namespace Go.Av
open Go.RowKit
variable {P : Program} {w0 : World} {X0 : Gh} {n : Nat} {L : Look} {a : Act} {w w' : World} {G : Gho} {o : Oper} {K : Act → World → Prop} {Q : Exit → Act → World → Prop}

theorem upon_val {v : Value} (h : (execOp a.eval o).run P w = .ok (.value v) w') (hk : K (a.put o.dst v) w') : o.wp P a w K Q := by
  unfold Oper.wp; rw [h]; exact hk

theorem avConst_rel {X : Gh} : ∀ {v : Value} {x : AV}, avConst v = some x → Rel X w x v := by
  intro v x h
  unfold avConst at h
  split at h <;> first | (cases h; done) | (cases h; first | rfl | trivial | skip)
  exact ⟨none, 0, 0, rfl, rfl, Nat.le_refl _, .inl rfl⟩

theorem avConsts_rel {X : Gh} : ∀ {vs : List Value} {xs : List AV}, avConsts vs = some xs → RelL X w xs vs
  | [], xs, h => by simp [avConsts] at h; subst h; rfl
  | v :: vs, xs, h => by
    simp only [avConsts] at h
    split at h
    · rename_i x xs' hx hxs
      cases h
      exact ⟨v, vs, rfl, avConst_rel hx, avConsts_rel hxs⟩
    · cases h

theorem ev_rel (h : Inv P w0 X0 n L a w G) {x : Operand} {sv : SV} {own : OwnL} (he : ev L x = some (sv, own)) : RelS G L w sv (a.eval x) := by
  cases x with
  | tmp t => exact (h.tm t sv own he).2
  | const v =>
    simp only [ev, Option.map_eq_some_iff] at he
    obtain ⟨y, hy, e⟩ := he
    cases e
    exact avConst_rel hy
  | global g => cases he
  | func f => simp [ev] at he; obtain ⟨rfl, _⟩ := he; exact ⟨[], rfl, rfl⟩

theorem evV_rel (h : Inv P w0 X0 n L a w G) {x : Operand} {v : AV} (he : evV L x = some v) : Rel G.X w v (a.eval x) := by
  unfold evV at he
  split at he
  · rename_i y own hy
    cases he
    exact ev_rel h hy
  · cases he

theorem evVs_rel (h : Inv P w0 X0 n L a w G) : ∀ {xs : List Operand} {vs : List AV}, evVs L xs = some vs → RelL G.X w vs (xs.map a.eval)
  | [], vs, he => by simp [evVs] at he; subst he; rfl
  | x :: xs, vs, he => by
    simp only [evVs] at he
    split at he
    · rename_i v vs' hv hvs
      cases he
      exact ⟨_, _, rfl, evV_rel h hv, evVs_rel h hvs⟩
    · cases he

/-- What an operation that computes one value leaves. -/
theorem sr_fin (h : Inv P w0 X0 n L a w G) {d : Nat} {v : AV} {hh : Hint} {obs : List Prop} {r : Res} (hd : d < n) (hf : fin v hh obs = some r) (hob : ∀ p ∈ r.obs, p) {u : Value}
    (hr : Rel G.X w v u) : SR P w0 X0 n (L.upds (r.pre ++ [.t d (r.sv, r.own)])) (a.put (some d) u) w := by
  unfold fin at hf
  split at hf
  · rename_i v' _
    cases hf
    have : v = v' := hob _ (by simp)
    subst this
    exact h.setT0 hd hr
  · cases hf
    exact h.setT0 hd hr

theorem fin_obs {v : AV} {hh : Hint} {obs : List Prop} {r : Res} (hf : fin v hh obs = some r) (hob : ∀ p ∈ r.obs, p) : ∀ p ∈ obs, p := by
  unfold fin at hf
  split at hf <;> cases hf
  · exact fun p hp => hob p (by simp [hp])
  · exact hob

/-- A value of another slot, with or without what it owns. -/
theorem sr_grab (h : Inv P w0 X0 n L a w G) {x : Operand} {b : Bool} {d : Nat} {sv : SV} {own : OwnL} {pre : List Upd} (hd : d < n) (hg : grab L x b = some (sv, own, pre)) :
    SR P w0 X0 n (L.upds (pre ++ [.t d (sv, own)])) (a.put (some d) (a.eval x)) w := by
  unfold grab at hg
  split at hg
  · rename_i t
    split at hg
    · rename_i sv' own' ht
      split at hg
      · cases hg
        simp only [Look.upds, List.cons_append, List.nil_append, List.foldl_cons, List.foldl_nil]
        exact h.moveT ht hd (h.tm t _ _ ht).2 id (fun j e hj => ⟨hj, rfl⟩) (fun _ _ e => e)
      · cases hg
        exact h.setT0 hd (h.tm t _ _ ht).2
    · cases hg
  · split at hg
    · rename_i sv' own' ht
      cases hg
      exact h.setT0 hd (ev_rel h ht)
    · cases hg

theorem ownOk_nil {e : TypeId} {base : Nat} (he : (sizeP P e).isSome = true) : OwnOk P G.X w base none e (.slice none 0 0) := by
  obtain ⟨s, hs⟩ := Option.isSome_iff_exists.1 he
  exact ⟨s, 0, [], hs, World.ownsRow_nil w base e s, rfl, by simp⟩

/-- The nil slice, on its own. -/
theorem sr_nil (h : Inv P w0 X0 n L a w G) {e : TypeId} {d : Nat} (hd : d < n) (he : (sizeP P e).isSome = true) {x : AV} (hx : avConst (.slice none 0 0) = some x) :
    SR P w0 X0 n (L.upds ([] ++ [.t d (.v x, [(0, e)])])) (a.put (some d) (.slice none 0 0)) w := by
  refine ⟨_, h.setT hd (sv := .v x) (avConst_rel hx) (fun _ => none) ?_ ?_ ?_⟩
  · intro j t hj
    simp at hj
    obtain ⟨rfl, rfl⟩ := hj
    exact ⟨_, rfl, ownOk_nil he⟩
  · intro j e k e' b hj hk ej
    cases ej
  · intro j e q b hj hq hne ej
    cases ej

theorem sr_mv (h : Inv P w0 X0 n L a w G) {x : Operand} {b : Bool} {d : Nat} {sv : SV} {own : OwnL} {pre : List Upd} (t : TypeId) (hd : d < n) (hg : grab L x b = some (sv, own, pre)) :
    SR P w0 X0 n (L.upds (pre ++ [.t d (sv, if isNilC x then (match elemP P t with | some e => if (sizeP P e).isSome then [(0, e)] else [] | none => []) else own)])) (a.put (some d) (a.eval x)) w := by
  by_cases hn : isNilC x = true
  · rw [if_pos hn]
    have hx : x = .const (.slice none 0 0) := by
      unfold isNilC at hn
      split at hn
      · rfl
      · cases hn
    subst hx
    have hg' : sv = .v (.sl []) ∧ own = [] ∧ pre = [] := by
      simp [grab, ev, avConst] at hg
      exact ⟨hg.1.symm, hg.2.1, hg.2.2⟩
    obtain ⟨rfl, rfl, rfl⟩ := hg'
    cases he : elemP P t with
    | none => exact h.setT0 hd (ev_rel h (x := .const (.slice none 0 0)) (own := []) rfl)
    | some e =>
      by_cases hs : (sizeP P e).isSome = true
      · simp only [hs, if_true]
        exact sr_nil h hd hs rfl
      · simp only [hs, if_false, Bool.false_eq_true]
        exact h.setT0 hd (ev_rel h (x := .const (.slice none 0 0)) (own := []) rfl)
  · rw [if_neg hn]
    exact sr_grab h hd hg
end Go.Av

/- That the operations on numbers and texts do what the evaluator says. -/
namespace Go.Av
open Go.RowKit
variable {P : Program} {w0 : World} {X0 : Gh} {n : Nat} {L : Look} {a : Act} {w w' : World} {G : Gho} {o : Oper} {K : Act → World → Prop} {Q : Exit → Act → World → Prop}
  {wants : Nat → Bool} {h : Hint} {r : Res} {d : Nat}

/-- What is to be shown of one operation. -/
def Does (P : Program) (w0 : World) (X0 : Gh) (n : Nat) (L : Look) (o : Oper) (a : Act) (w : World) (d : Nat) (r : Res) : Prop :=
  ∀ Q, o.wp P a w (fun a' w' => SR P w0 X0 n (L.upds (r.pre ++ [.t d (r.sv, r.own)])) a' w') Q

theorem does_val (hd : o.dst = some d) {v : Value} (h : (execOp a.eval o).run P w = .ok (.value v) w') (hk : SR P w0 X0 n (L.upds (r.pre ++ [.t d (r.sv, r.own)])) (a.put (some d) v) w') :
    Does P w0 X0 n L o a w d r := fun Q => upon_val h (by rw [hd]; exact hk)

theorem lt_of_blt {d n : Nat} (h : Nat.blt d n = true) : d < n := by
  simp [Nat.blt] at h; omega

theorem s_move (hI : Inv P w0 X0 n L a w G) (hd : o.dst = some d) {x : Operand} (ho : o.op = .move x) (hop : aOp P n L wants o h = some r) : Does P w0 X0 n L o a w d r := by
  simp only [aOp, hd, ho] at hop
  split at hop
  · rename_i hlt
    split at hop
    · rename_i sv own pre hg
      cases hop
      exact does_val hd (v := a.eval x) (w' := w) (by simp [execOp, ho]) (sr_mv hI o.type (lt_of_blt hlt) hg)
    · cases hop
  · cases hop

theorem s_assign (hI : Inv P w0 X0 n L a w G) (hd : o.dst = some d) {x : Operand} (ho : o.op = .assign x) (hop : aOp P n L wants o h = some r) : Does P w0 X0 n L o a w d r := by
  simp only [aOp, hd, ho] at hop
  split at hop
  · rename_i hlt
    split at hop
    · rename_i sv own pre hg
      cases hop
      exact does_val hd (v := a.eval x) (w' := w) (by simp [execOp, ho]) (sr_mv hI o.type (lt_of_blt hlt) hg)
    · cases hop
  · cases hop

theorem s_pick (hI : Inv P w0 X0 n L a w G) (hd : o.dst = some d) {c x y : Operand} (ho : o.op = .pick c x y) (hop : aOp P n L wants o h = some r) : Does P w0 X0 n L o a w d r := by
  simp only [aOp, hd, ho] at hop
  split at hop
  · rename_i hlt
    have hlt' : d < n := lt_of_blt hlt
    split at hop
    · rename_i hc
      have hc' := evV_rel hI hc
      split at hop
      · rename_i sv own he
        cases hop
        exact does_val hd (v := a.eval x) (w' := w) (by simp [execOp, ho, show a.eval c = .bool true from hc', asBool]) (hI.setT0 hlt' (ev_rel hI he))
      · cases hop
    · rename_i hc
      have hc' := evV_rel hI hc
      split at hop
      · rename_i sv own he
        cases hop
        exact does_val hd (v := a.eval y) (w' := w) (by simp [execOp, ho, show a.eval c = .bool false from hc', asBool]) (hI.setT0 hlt' (ev_rel hI he))
      · cases hop
    · cases hop
  · cases hop

theorem s_extract (hI : Inv P w0 X0 n L a w G) (hd : o.dst = some d) {x : Operand} {i : Nat} (ho : o.op = .extract x i) (hop : aOp P n L wants o h = some r) : Does P w0 X0 n L o a w d r := by
  simp only [aOp, hd, ho] at hop
  split at hop
  · rename_i hlt
    have hlt' : d < n := lt_of_blt hlt
    split at hop
    · rename_i vs hc
      obtain ⟨us, hu, hrel⟩ := evV_rel hI hc
      split at hop
      · rename_i v hv
        cases hop
        obtain ⟨u, hu', hr⟩ := hrel.get i hv
        exact does_val hd (v := u) (w' := w) (by simp [execOp, ho, hu, Instr.extract, hu']) (hI.setT0 (sv := .v v) hlt' hr)
      · cases hop
    · cases hop
  · cases hop

theorem s_nilCheck (hI : Inv P w0 X0 n L a w G) (hd : o.dst = some d) {x : Operand} (ho : o.op = .nilCheck x) (hop : aOp P n L wants o h = some r) : Does P w0 X0 n L o a w d r := by
  simp only [aOp, hd, ho] at hop
  split at hop
  · rename_i hlt
    have hlt' : d < n := lt_of_blt hlt
    split at hop
    · rename_i k off own hc
      cases hop
      have hu : a.eval x = .pointer (some ⟨G.bx k, off, none⟩) := ev_rel hI hc
      exact does_val hd (v := a.eval x) (w' := w) (by simp [execOp, ho, hu]) (hI.setT0 (sv := .ptr k off) hlt' hu)
    · rename_i cs own hc
      cases hop
      have hr := ev_rel hI hc
      obtain ⟨b, f, hu, _⟩ := hr
      exact does_val hd (v := a.eval x) (w' := w) (by simp [execOp, ho, hu]) (hI.setT0 hlt' (ev_rel hI hc))
    · rename_i k i off own hc
      split at hop
      · rename_i e he
        cases hop
        obtain ⟨sz, rows⟩ := e
        have hu : a.eval x = .pointer (some ⟨G.rx k, i * sz + off, none⟩) := ev_rel hI hc sz rows he
        exact does_val hd (v := a.eval x) (w' := w) (by simp [execOp, ho, hu]) (hI.setT0 hlt' (ev_rel hI hc))
      · cases hop
    · cases hop
  · cases hop

theorem run_und {t : TypeId} {dsc : TypeDesc} (h : P.underlying t = some dsc) : (underlying t).run P w = .ok dsc w := by
  simp [underlying, program, Sem.run, h]

theorem s_index (hI : Inv P w0 X0 n L a w G) (hd : o.dst = some d) {T : TypeId} {x i : Operand} (ho : o.op = .index T x i) (hop : aOp P n L wants o h = some r) (hob : ∀ p ∈ r.obs, p) : Does P w0 X0 n L o a w d r := by
  simp only [aOp, hd, ho] at hop
  split at hop
  · rename_i hlt
    have hlt' : d < n := lt_of_blt hlt
    split at hop
    · rename_i s k m hT hx hi
      have hu : a.eval x = .string s := evV_rel hI hx
      have hv : a.eval i = .int k m := evV_rel hI hi
      obtain ⟨h0, h1⟩ := fin_obs hop hob (0 ≤ m ∧ m.toNat < s.size) (by simp)
      have hT' : P.underlying T = some .string := by
        unfold isStrP at hT; split at hT
        · assumption
        · cases hT
      have hg : s[m.toNat]? = some (s[m.toNat]'h1) := by simp [h1]
      refine does_val hd (v := .int .u8 (bt s m)) (w' := w) ?_ (sr_fin hI hlt' hop hob rfl)
      simp [execOp, ho, hu, hv, Instr.index, asIntOf, run_und hT', h0, hg, bt]
    · cases hop
  · cases hop
end Go.Av

/- Numbers and texts, further. -/
namespace Go.Av
open Go.RowKit
variable {P : Program} {w0 : World} {X0 : Gh} {n : Nat} {L : Look} {a : Act} {w w' : World} {G : Gho} {o : Oper} {K : Act → World → Prop} {Q : Exit → Act → World → Prop}
  {wants : Nat → Bool} {h : Hint} {r : Res} {d : Nat}

theorem run_guard_int (op : BinOp) (T : TypeId) (x y : Operand) (k k' : IntKind) (m m' : Int) : (eqGuard op T x y (.int k m) (.int k' m')).run P w = .ok () w := by
  unfold eqGuard; cases op <;> simp
theorem run_guard_str (op : BinOp) (T : TypeId) (x y : Operand) (m m' : ByteArray) : (eqGuard op T x y (.string m) (.string m')).run P w = .ok () w := by
  unfold eqGuard; cases op <;> simp
theorem run_guard_bool (op : BinOp) (T : TypeId) (x y : Operand) (m m' : Bool) : (eqGuard op T x y (.bool m) (.bool m')).run P w = .ok () w := by
  unfold eqGuard; cases op <;> simp

theorem run_binI {op : BinOp} {T : TypeId} {k : IntKind} {x y : Int} {v : AV} (h : binI op k x y = some v) (h1 : op ≠ .quo) (h2 : op ≠ .rem) (h3 : op ≠ .shl) (h4 : op ≠ .shr) :
    ∃ u, (binOp op T (.int k x) (.int k y)).run P w = .ok u w ∧ Rel G.X w v u := by
  cases op <;> simp [binI] at h <;> subst h <;> first | (exact absurd rfl h1) | (exact absurd rfl h2) | (exact absurd rfl h3) | (exact absurd rfl h4) | (refine ⟨_, ?_, rfl⟩; simp [binOp, Op.intArith, Op.intCmp])

theorem run_binS {op : BinOp} {T : TypeId} {x y : ByteArray} {v : AV} (h : binS op x y = some v) : ∃ u, (binOp op T (.string x) (.string y)).run P w = .ok u w ∧ Rel G.X w v u := by
  cases op <;> simp [binS] at h <;> subst h <;> (refine ⟨_, ?_, rfl⟩; simp [binOp, Op.stringOp])

theorem run_equal_bool {T : TypeId} {x y : Bool} (hT : P.underlying T = some .bool) : (Op.equal T (.bool x) (.bool y)).run P w = .ok (x == y) w := by
  unfold Op.equal
  rw [show Op.maxDepth = 9999 + 1 from rfl, Op.equalIn]
  simp [run_und hT]

theorem run_eql_bool {T : TypeId} {x y : Bool} (hT : P.underlying T = some .bool) : (binOp .eql T (.bool x) (.bool y)).run P w = .ok (.bool (x == y)) w := by
  simp only [binOp, Sem.run_bind, run_equal_bool hT, Result.andThen_ok]
  rfl

theorem run_neq_bool {T : TypeId} {x y : Bool} (hT : P.underlying T = some .bool) : (binOp .neq T (.bool x) (.bool y)).run P w = .ok (.bool (!(x == y))) w := by
  simp only [binOp, Sem.run_bind, run_equal_bool hT, Result.andThen_ok]
  rfl

theorem s_binOp (hI : Inv P w0 X0 n L a w G) (hd : o.dst = some d) {op : BinOp} {T T' : TypeId} {x y : Operand} (ho : o.op = .binOp op T x y T') (hop : aOp P n L wants o h = some r) (hob : ∀ p ∈ r.obs, p) :
    Does P w0 X0 n L o a w d r := by
  simp only [aOp, hd, ho] at hop
  split at hop
  · rename_i hlt
    have hlt' : d < n := lt_of_blt hlt
    split at hop
    · rename_i k m k' m' hx hy
      have hu : a.eval x = .int k m := evV_rel hI hx
      have hv : a.eval y = .int k' m' := evV_rel hI hy
      split at hop
      · split at hop
        · rename_i hk
          subst hk
          have hb : m' ≠ 0 := fin_obs hop hob _ (by simp)
          refine does_val hd (v := .int k (k.wrap (m.tdiv m'))) (w' := w) ?_ (sr_fin hI hlt' hop hob rfl)
          simp [execOp, ho, hu, hv, run_guard_int, binOp, Op.intDiv, hb]
        · cases hop
      · split at hop
        · rename_i hk
          subst hk
          have hb : m' ≠ 0 := fin_obs hop hob _ (by simp)
          refine does_val hd (v := .int k (m.tmod m')) (w' := w) ?_ (sr_fin hI hlt' hop hob rfl)
          simp [execOp, ho, hu, hv, run_guard_int, binOp, Op.intDiv, hb]
        · cases hop
      · cases hop
      · cases hop
      · rename_i q1 q2 q3 q4
        split at hop
        · rename_i hk
          subst hk
          split at hop
          · rename_i v hv'
            obtain ⟨u, hr, hrel⟩ := run_binI (P := P) (w := w) (G := G) (T := T) hv' q1 q2 q3 q4
            refine does_val hd (v := u) (w' := w) ?_ (sr_fin hI hlt' hop hob hrel)
            simp [execOp, ho, hu, hv, run_guard_int, hr]
          · cases hop
        · cases hop
    · rename_i m m' hx hy
      have hu : a.eval x = .string m := evV_rel hI hx
      have hv : a.eval y = .string m' := evV_rel hI hy
      split at hop
      · have hb : sumOk m m' := fin_obs hop hob _ (by simp)
        refine does_val hd (v := .string (m ++ m')) (w' := w) ?_ (sr_fin hI hlt' hop hob rfl)
        have hb' : (m.size : Int) + (m'.size : Int) ≤ 9223372036854775807 := by
          unfold sumOk at hb; omega
        have e : IntKind.i64.max = 9223372036854775807 := rfl
        simp [execOp, ho, hu, hv, run_guard_str, binOp, Op.stringOp, e, hb']
      · split at hop
        · rename_i v hv'
          obtain ⟨u, hr, hrel⟩ := run_binS (P := P) (w := w) (G := G) (T := T) hv'
          refine does_val hd (v := u) (w' := w) ?_ (sr_fin hI hlt' hop hob hrel)
          simp [execOp, ho, hu, hv, run_guard_str, hr]
        · cases hop
    · rename_i m m' hx hy
      have hu : a.eval x = .bool m := evV_rel hI hx
      have hv : a.eval y = .bool m' := evV_rel hI hy
      split at hop
      · rename_i hT
        refine does_val hd (v := .bool (m == m')) (w' := w) ?_ (sr_fin hI hlt' hop hob rfl)
        simp [execOp, ho, hu, hv, run_guard_bool, run_eql_bool hT, run_neq_bool hT]
      · rename_i hT
        refine does_val hd (v := .bool (!(m == m'))) (w' := w) ?_ (sr_fin hI hlt' hop hob rfl)
        simp [execOp, ho, hu, hv, run_guard_bool, run_eql_bool hT, run_neq_bool hT]
      · cases hop
    · cases hop
  · cases hop

theorem s_unOp (hI : Inv P w0 X0 n L a w G) (hd : o.dst = some d) {op : UnOp} {T : TypeId} {x : Operand} (ho : o.op = .unOp op T x) (hop : aOp P n L wants o h = some r) (hob : ∀ p ∈ r.obs, p) :
    Does P w0 X0 n L o a w d r := by
  simp only [aOp, hd, ho] at hop
  split at hop
  · rename_i hlt
    have hlt' : d < n := lt_of_blt hlt
    split at hop
    · rename_i k m hx
      have hu : a.eval x = .int k m := evV_rel hI hx
      refine does_val hd (v := .int k (k.wrap (0 - m))) (w' := w) ?_ (sr_fin hI hlt' hop hob rfl)
      simp [execOp, ho, hu, Op.unary, Op.intArith]
    · rename_i m hx
      have hu : a.eval x = .bool m := evV_rel hI hx
      refine does_val hd (v := .bool (!m)) (w' := w) ?_ (sr_fin hI hlt' hop hob rfl)
      simp [execOp, ho, hu, Op.unary]
    · cases hop
  · cases hop

theorem s_convert (hI : Inv P w0 X0 n L a w G) (hd : o.dst = some d) {S T : TypeId} {x : Operand} (ho : o.op = .convert S T x) (hop : aOp P n L wants o h = some r) (hob : ∀ p ∈ r.obs, p) :
    Does P w0 X0 n L o a w d r := by
  simp only [aOp, hd, ho] at hop
  split at hop
  · rename_i hlt
    have hlt' : d < n := lt_of_blt hlt
    split at hop
    · rename_i k m hx
      have hu : a.eval x = .int k m := evV_rel hI hx
      split at hop
      · rename_i k' hk'
        split at hop
        · rename_i hs
          obtain ⟨ds, hs⟩ := Option.isSome_iff_exists.1 hs
          have hT : P.underlying T = some (.int k') := by
            unfold intOfP at hk'; split at hk'
            · cases hk'; assumption
            · cases hk'
          refine does_val hd (v := .int k' (k'.wrap m)) (w' := w) ?_ (sr_fin hI hlt' hop hob rfl)
          cases ds <;> simp [execOp, ho, hu, convert, run_und hs, run_und hT, Conv.intToInt]
        · cases hop
      · cases hop
    · rename_i m hx
      have hu : a.eval x = .string m := evV_rel hI hx
      split at hop
      · rename_i hs
        simp only [Bool.and_eq_true] at hs
        have hT : ∀ {T : TypeId}, isStrP P T = true → P.underlying T = some .string := by
          intro T hT
          unfold isStrP at hT; split at hT
          · assumption
          · cases hT
        refine does_val hd (v := .string m) (w' := w) ?_ (sr_fin hI hlt' hop hob rfl)
        simp [execOp, ho, hu, convert, run_und (hT hs.1), run_und (hT hs.2)]
      · cases hop
    · cases hop
  · cases hop
end Go.Av

/- Reading memory. -/
namespace Go.Av
open Go.RowKit
variable {P : Program} {w0 : World} {X0 : Gh} {n : Nat} {L : Look} {a : Act} {w w' : World} {G : Gho} {o : Oper} {K : Act → World → Prop} {Q : Exit → Act → World → Prop}
  {wants : Nat → Bool} {h : Hint} {r : Res} {d : Nat}

theorem add_lit (b o j : Nat) : (⟨b, o, none⟩ : Addr).add j = ⟨b, o + j, none⟩ := by
  unfold Addr.add; split <;> simp_all

theorem run_isAgg {t : TypeId} {ag : Bool} (h : isAggP P t = some ag) : (isAgg t).run P w = .ok ag w := by
  unfold isAggP at h
  cases hu : P.underlying t with
  | none => simp [hu] at h
  | some ds =>
    simp [hu] at h
    subst h
    cases ds <;> simp [isAgg, run_und hu]

theorem run_sizeOf {t : TypeId} {s : Nat} (h : sizeP P t = some s) : (sizeOf t).run P w = .ok s w := by
  unfold sizeP at h
  cases hu : P.info? t with
  | none => simp [hu] at h
  | some i => simp [hu] at h; subst h; simp [sizeOf, typeInfo, program, Sem.run, hu]

/-- The cells from a place on. -/
def CellsAt (w : World) (b o : Nat) (us : List Value) : Prop := ∀ j u, us[j]? = some u → w.cell? ⟨b, o + j, none⟩ = some u

theorem run_loadVar {T : TypeId} {ag : Bool} {s b o : Nat} {us : List Value} (hag : isAggP P T = some ag) (hs : sizeP P T = some s) (hl : us.length = s) (hc : CellsAt w b o us) (h1 : ag = true ∨ s = 1) :
    ∃ u, (loadVar T ⟨b, o, none⟩).run P w = .ok u w ∧ (if ag then u = .agg us.toArray else us = [u]) := by
  cases ag with
  | true =>
    refine ⟨.agg us.toArray, ?_, rfl⟩
    have hr := run_loadCells_list (P := P) w ⟨b, o, none⟩ us (fun j u hj => by rw [add_lit]; exact hc j u hj)
    rw [hl] at hr
    simp [loadVar, run_isAgg hag, run_sizeOf hs, hr]
  | false =>
    have : s = 1 := by simpa using h1
    subst this
    match us, hl with
    | [u], _ =>
      refine ⟨u, ?_, rfl⟩
      have h0 := hc 0 u rfl
      simp at h0
      simp [loadVar, run_isAgg hag, load, Sem.run, h0]

/-- The value of a type whose cells these are. -/
theorem rel_ofCells {X : Gh} {ag : Bool} {cs : List AV} {us : List Value} {v : AV} {u : Value} (ho : ofCells ag cs = some v) (hr : RelL X w cs us) (hu : if ag then u = .agg us.toArray else us = [u]) : Rel X w v u := by
  cases ag with
  | true => simp [ofCells] at ho; subst ho; simp at hu; exact ⟨us, hu, hr⟩
  | false =>
    unfold ofCells at ho
    simp at ho
    split at ho
    · cases ho
      simp at hu
      subst hu
      obtain ⟨u', r', e, h1, h2⟩ := hr
      cases e; exact h1
    · cases ho

theorem relC_cells {X : Gh} : ∀ {cs : List AV} {b o : Nat}, RelC X w b o cs → ∃ us, RelL X w cs us ∧ us.length = cs.length ∧ CellsAt w b o us
  | [], b, o, _ => ⟨[], rfl, rfl, fun j u hj => by simp at hj⟩
  | c :: cs, b, o, ⟨⟨u, hc, hk, hr⟩, q⟩ => by
    obtain ⟨us, h1, h2, h3⟩ := relC_cells q
    refine ⟨u :: us, ⟨u, us, rfl, hr, h1⟩, by simp [h2], ?_⟩
    intro j v hj
    cases j with
    | zero => simp at hj; subst hj; exact hc
    | succ j =>
      have := h3 j v (by simpa using hj)
      rwa [show o + 1 + j = o + (j + 1) by omega] at this

theorem ofCells_some {ag : Bool} {cs : List AV} {v : AV} (h : ofCells ag cs = some v) : ag = true ∨ cs.length = 1 := by
  cases ag with
  | true => exact .inl rfl
  | false =>
    unfold ofCells at h
    simp at h
    split at h
    · exact .inr rfl
    · cases h

/-- What a value's cells are, as they stand in a frame: an aggregate's cells, or itself. -/
theorem flat_of {ag : Bool} {us : List Value} {u : Value} (hu : if ag then u = .agg us.toArray else us = [u]) (h1 : ag = true ∨ ∀ vs, u ≠ .tuple vs) (h2 : ag = true ∨ ∀ cs, u ≠ .agg cs) : Value.flat u = us := by
  cases ag with
  | true => simp at hu; subst hu; simp [Value.flat, Value.cells]
  | false =>
    simp at hu h1 h2
    subst hu
    cases u <;> simp_all [Value.flat, Value.cells]

theorem rows_drop : ∀ (rows : List (List AV)) (i : Nat) (c : List AV) (sz : Nat), (∀ c ∈ rows, c.length = sz) → rows[i]? = some c → rows.flatten.drop (i * sz) = c ++ (rows.drop (i + 1)).flatten
  | [], _, _, _, _, h => by simp at h
  | r :: rows, 0, c, sz, _, h => by simp at h; subst h; simp
  | r :: rows, i + 1, c, sz, hl, h => by
    have hr : r.length = sz := hl r (by simp)
    have e : (i + 1) * sz = sz + i * sz := by rw [Nat.add_mul]; omega
    rw [List.flatten_cons, e, ← List.drop_drop, ← hr, List.drop_left, hr]
    simpa using rows_drop rows i c sz (fun c h => hl c (by simp [h])) (by simpa using h)

theorem s_load (hI : Inv P w0 X0 n L a w G) (hd : o.dst = some d) {T : TypeId} {x : Operand} (ho : o.op = .load T x) (hop : aOp P n L wants o h = some r) (hob : ∀ p ∈ r.obs, p) :
    Does P w0 X0 n L o a w d r := by
  simp only [aOp, hd, ho] at hop
  split at hop
  · rename_i hlt
    have hlt' : d < n := lt_of_blt hlt
    split at hop
    · -- a box
      rename_i ag s k off own1 hag hs hx
      have hu : a.eval x = .pointer (some ⟨G.bx k, off, none⟩) := ev_rel hI hx
      split at hop
      · rename_i cs own hb
        split at hop
        · rename_i hfit
          simp only [Bool.and_eq_true, Bool.or_eq_true, Nat.ble_eq] at hfit
          obtain ⟨hf1, hf2⟩ := hfit
          replace hf2 : ag = true ∨ s = 1 := hf2.imp id Nat.eq_of_beq_eq_true
          obtain ⟨_, hX0, us, e, hheap, hrel⟩ := hI.bo k cs own hb
          have hlen := hrel.length
          have hrel2 : RelL G.X w ((cs.drop off).take s) ((us.toList.drop off).take s) := (hrel.drop off).take s
          have hl2 : ((us.toList.drop off).take s).length = s := by
            rw [List.length_take, List.length_drop, hlen]; omega
          have hc2 : CellsAt w (G.bx k) off ((us.toList.drop off).take s) := by
            intro j u hj
            rw [List.getElem?_take] at hj
            split at hj
            · rw [List.getElem?_drop] at hj
              rw [cell_row hheap]; simpa using hj
            · cases hj
          obtain ⟨u, hrun, hu2⟩ := run_loadVar (P := P) hag hs hl2 hc2 hf2
          have hexec : (execOp a.eval o).run P w = .ok (.value u) w := by
            simp [execOp, ho, hu, Instr.loadAt, Instr.sureAddr, hrun]
          split at hop
          · -- what is owned goes along
            rename_i v p0 ps hv hw1
            cases hop
            have hv' := rel_ofCells hv hrel2 hu2
            refine does_val hd hexec ?_
            simp only [Look.upds, List.cons_append, List.nil_append, List.foldl_cons, List.foldl_nil]
            have hsub : ∀ q ∈ ((p0 :: ps).filter fun p => !inRange off s p), q ∈ (p0 :: ps) := fun q hq => (List.mem_filter.1 hq).1
            have hcl := hI.clearB hb hsub
            have hsh : ∀ j t, (j, t) ∈ ownShift off s (p0 :: ps) → (off + j, t) ∈ (p0 :: ps) ∧ j < s := by
              intro j t hj
              simp only [ownShift, List.mem_map, List.mem_filter, Bool.and_eq_true, decide_eq_true_eq] at hj
              obtain ⟨⟨q1, q2⟩, ⟨hm, hq1, hq2⟩, e⟩ := hj
              simp only [Prod.mk.injEq] at e
              obtain ⟨rfl, rfl⟩ := e
              refine ⟨?_, by omega⟩
              rwa [show off + (q1 - off) = q1 by omega]
            have hcell : ∀ j t, (j, t) ∈ ownShift off s (p0 :: ps) → ∃ c, (us.toList.drop off)[j]? = some c ∧ w.cell? ⟨G.bx k, off + j, none⟩ = some c ∧ OwnOk P G.X w w0.heap.size (G.ow (.b k (off + j))) t c := by
              intro j t hj
              obtain ⟨hm, hjs⟩ := hsh j t hj
              obtain ⟨c, hc, hok⟩ := hI.ob k cs _ (off + j) t hb hm
              refine ⟨c, ?_, hc, hok⟩
              rw [cell_row hheap] at hc
              rw [List.getElem?_drop]; simpa using hc
            refine ⟨_, hcl.setT hlt' (sv := .v v) hv' (fun j => G.ow (.b k (off + j))) ?_ ?_ ?_⟩
            · intro j t hj
              obtain ⟨c, hc1, hc2, hok⟩ := hcell j t hj
              refine ⟨c, ?_, hok⟩
              have hjs := (hsh j t hj).2
              have hflat : Value.flat u = (us.toList.drop off).take s := by
                have hnt : ∀ vs, c ≠ .tuple vs := fun vs e => by
                  obtain ⟨sz, m, xs, _, hown, _⟩ := hok
                  rcases hown.2 with ⟨e1, _⟩ | ⟨g, cp, cr, e1, _⟩ <;> rw [e] at e1 <;> cases e1
                have hna : ∀ vs, c ≠ .agg vs := fun vs e => by
                  obtain ⟨sz, m, xs, _, hown, _⟩ := hok
                  rcases hown.2 with ⟨e1, _⟩ | ⟨g, cp, cr, e1, _⟩ <;> rw [e] at e1 <;> cases e1
                cases hagv : ag with
                | true => exact flat_of (by rw [hagv] at hu2; exact hu2) (.inl rfl) (.inl rfl)
                | false =>
                  rw [hagv] at hu2 hf2
                  simp at hf2
                  subst hf2
                  simp at hu2
                  have hj0 : j = 0 := by omega
                  subst hj0
                  have : u = c := by
                    have := congrArg (fun l : List Value => l[0]?) hu2
                    simp at this
                    simp at hc1
                    rw [hc1] at this
                    simpa using this.symm
                  subst this
                  exact flat_of (ag := false) (by simpa using hu2) (.inr hnt) (.inr hna)
              rw [hflat, List.getElem?_take, if_pos hjs]; exact hc1
            · intro j t j' t' b hj hj' e1 e2
              have h1 := (hsh j t hj).1
              have h2 := (hsh j' t' hj').1
              have := hI.dist (.own (.b k (off + j))) (.own (.b k (off + j'))) b ⟨cs, _, t, hb, h1⟩ ⟨cs, _, t', hb, h2⟩ e1 e2
              simp only [EP.own.injEq, OP.b.injEq, true_and] at this
              omega
            · intro j t q b hj hq hne e1 e2
              have h1 := (hsh j t hj).1
              have hq' : L.has q := by
                cases q with
                | box k' =>
                  by_cases ek : k' = k
                  · subst ek; exact ⟨_, hb⟩
                  · obtain ⟨z, hz⟩ := hq; simp only [Look.upd, if_neg ek] at hz; exact ⟨z, hz⟩
                | row k' => exact hq
                | own p =>
                  cases p with
                  | t k' j' => exact hq
                  | b k' j' =>
                    obtain ⟨z1, z2, z3, hz, hz'⟩ := hq
                    by_cases ek : k' = k
                    · subst ek
                      simp only [Look.upd, if_pos] at hz
                      cases hz
                      exact ⟨_, _, z3, hb, hsub _ hz'⟩
                    · simp only [Look.upd, if_neg ek] at hz; exact ⟨z1, z2, z3, hz, hz'⟩
              have := hI.dist (.own (.b k (off + j))) q b ⟨cs, _, t, hb, h1⟩ hq' e1 e2
              subst this
              obtain ⟨z1, z2, z3, hz, hz'⟩ := hq
              simp only [Look.upd, if_pos] at hz
              cases hz
              have := (List.mem_filter.1 hz').2
              have hjs := (hsh j t hj).2
              have hin : inRange off s (off + j, z3) = true := by
                simp only [inRange, Bool.and_eq_true, Nat.ble_eq, Nat.blt]
                constructor <;> omega
              rw [hin] at this
              simp at this
          · rename_i v hv hw1
            cases hop
            exact does_val hd hexec (hI.setT0 (sv := .v v) hlt' (rel_ofCells hv hrel2 hu2))
          · cases hop
        · cases hop
      · cases hop
    · -- memory that stays
      rename_i ag s cs own1 hag hs hx
      obtain ⟨b, off, hu, hrc⟩ := ev_rel hI hx
      split at hop
      · rename_i hf2
        simp only [Bool.or_eq_true] at hf2
        replace hf2 : ag = true ∨ s = 1 := hf2.imp id Nat.eq_of_beq_eq_true
        split at hop
        · rename_i v hv
          have hle : s ≤ cs.length := fin_obs hop hob _ (by simp)
          obtain ⟨us, h1, h2, h3⟩ := relC_cells (hrc.take s)
          have hl2 : us.length = s := by rw [h2, List.length_take]; omega
          obtain ⟨u, hrun, hu2⟩ := run_loadVar (P := P) hag hs hl2 h3 hf2
          refine does_val hd (v := u) (w' := w) ?_ (sr_fin hI hlt' hop hob (rel_ofCells hv h1 hu2))
          simp [execOp, ho, hu, Instr.loadAt, Instr.sureAddr, hrun]
        · cases hop
      · cases hop
    · -- an element of an array
      rename_i ag s k i off own1 hag hs hx
      split at hop
      · rename_i sz rows v hr hh
        split at hop
        · rename_i hf2
          simp only [Bool.or_eq_true] at hf2
          replace hf2 : ag = true ∨ s = 1 := hf2.imp id Nat.eq_of_beq_eq_true
          cases hop
          have hu : a.eval x = .pointer (some ⟨G.rx k, i * sz + off, none⟩) := ev_rel hI hx sz rows hr
          obtain ⟨c, hc1, hc2, hc3⟩ := hob _ (List.mem_singleton.2 rfl)
          obtain ⟨_, hX0, hlens, us, e, hheap, hrel⟩ := hI.ro k sz rows hr
          have hrE := relE_of (X' := fun _ => none) (w := w) (X := G.X) (b := G.rx k) (sz := sz) (by
            intro b o u hc hk; exact ⟨hc, trivial⟩) rows us.toList 0 hlens hrel (fun j u hj => by rw [cell_row hheap]; simpa using hj) (fun j hj => trivial)
          have hE := (hrE.get i hc1).2
          have hcc := relC_cells ((hE.drop off).take s)
          obtain ⟨us2, h1, h2, h3⟩ := hcc
          have hl2 : us2.length = s := by rw [h2, List.length_take, List.length_drop]; omega
          obtain ⟨u, hrun, hu2⟩ := run_loadVar (P := P) hag hs hl2 h3 hf2
          rw [Nat.zero_add] at hrun
          -- the cells, as they are leant on
          have hflat : RelL G.X w ((c.drop off).take s) us2 := by
            have hsub : rows.flatten.drop (i * sz) = c ++ (rows.drop (i + 1)).flatten := by
              have := rows_drop rows i c sz hlens hc1
              exact this
            have h5 := ((hrel.drop (i * sz + off)).take s)
            rw [← List.drop_drop, hsub, List.drop_append_of_le_length (by omega), List.take_append_of_le_length (by rw [List.length_drop]; omega)] at h5
            have h6 : ((us.toList.drop (i * sz + off)).take s) = us2 := by
              apply List.ext_getElem?
              intro j
              by_cases hj : j < s
              · have h7 : us2[j]? = some (us2[j]'(by omega)) := by simp [hl2, hj]
                have h8 := h3 j _ h7
                rw [cell_row hheap] at h8
                rw [h7, List.getElem?_take, if_pos hj, List.getElem?_drop]
                rw [show 0 + i * sz + off + j = i * sz + off + j by omega] at h8
                simpa using h8
              · rw [List.getElem?_take, if_neg hj, List.getElem?_eq_none (by omega)]
            rw [← h6]; exact h5
          refine does_val hd (v := u) (w' := w) ?_ (hI.setT0 (sv := .v v) hlt' (rel_ofCells hc3 hflat hu2))
          simp [execOp, ho, hu, Instr.loadAt, Instr.sureAddr, hrun]
        · cases hop
      · cases hop
    · cases hop
  · cases hop
end Go.Av

/- Addresses, parts, calls. -/
namespace Go.Av
open Go.RowKit
variable {P : Program} {w0 : World} {X0 : Gh} {n : Nat} {L : Look} {a : Act} {w w' : World} {G : Gho} {o : Oper} {K : Act → World → Prop} {Q : Exit → Act → World → Prop}
  {wants : Nat → Bool} {h : Hint} {r : Res} {d : Nat}

theorem fieldP_spec {S : TypeId} {f off : Nat} {ft : TypeId} (h : fieldP P S f = some (off, ft)) : ∃ fs fd, P.underlying S = some (.struct fs) ∧ fs[f]? = some fd ∧ fd.offset = off ∧ fd.type = ft := by
  unfold fieldP at h
  split at h
  · rename_i fs hu
    simp only [Option.map_eq_some_iff] at h
    obtain ⟨fd, h1, h2⟩ := h
    cases h2
    exact ⟨fs, fd, hu, h1, rfl, rfl⟩
  · cases h

theorem run_fieldAt {S : TypeId} {f off b x : Nat} {ft : TypeId} {m : Nat} (h : fieldP P S f = some (off, ft)) (hs : sizeP P ft = some (m + 1)) :
    (Instr.fieldAt S (.pointer (some ⟨b, x, none⟩)) f).run P w = .ok (.pointer (some ⟨b, x + off, none⟩)) w := by
  obtain ⟨fs, fd, h1, h2, rfl, rfl⟩ := fieldP_spec h
  simp [Instr.fieldAt, run_und h1, h2, Instr.sureAddr, fieldPlace, run_sizeOf hs, add_lit]

theorem s_fieldAddr (hI : Inv P w0 X0 n L a w G) (hd : o.dst = some d) {S : TypeId} {x : Operand} {f : Nat} (ho : o.op = .fieldAddr S x f) (hop : aOp P n L wants o h = some r) : Does P w0 X0 n L o a w d r := by
  simp only [aOp, hd, ho] at hop
  split at hop
  · rename_i hlt
    have hlt' : d < n := lt_of_blt hlt
    split at hop
    · rename_i off ft sv own hf hx
      split at hop
      · rename_i m hs
        split at hop
        · rename_i k p
          cases hop
          have hu : a.eval x = .pointer (some ⟨G.bx k, p, none⟩) := ev_rel hI hx
          refine does_val hd (v := .pointer (some ⟨G.bx k, p + off, none⟩)) (w' := w) (by simp [execOp, ho, hu, run_fieldAt hf hs]) (hI.setT0 (sv := .ptr k (p + off)) hlt' rfl)
        · rename_i cs
          cases hop
          obtain ⟨b, p, hu, hr⟩ := ev_rel hI hx
          refine does_val hd (v := .pointer (some ⟨b, p + off, none⟩)) (w' := w) (by simp [execOp, ho, hu, run_fieldAt hf hs]) (hI.setT0 (sv := .v (.vptr (cs.drop off))) hlt' ⟨b, p + off, rfl, hr.drop off⟩)
        · rename_i k i p
          split at hop
          · rename_i e he
            cases hop
            obtain ⟨sz, rows⟩ := e
            have hu : a.eval x = .pointer (some ⟨G.rx k, i * sz + p, none⟩) := ev_rel hI hx sz rows he
            refine does_val hd (v := .pointer (some ⟨G.rx k, i * sz + p + off, none⟩)) (w' := w) (by simp [execOp, ho, hu, run_fieldAt hf hs]) (hI.setT0 (sv := .aptr k i (p + off)) hlt' ?_)
            intro sz2 rows2 h2
            rw [he] at h2; cases h2
            rw [Nat.add_assoc]
          · cases hop
        · cases hop
      · cases hop
    · cases hop
  · cases hop

theorem run_part {T : TypeId} {ag : Bool} {s off : Nat} {us : List Value} (hag : isAggP P T = some ag) (hs : sizeP P T = some s) (hl : off + s ≤ us.length) (h1 : ag = true ∨ s = 1) :
    ∃ u, (part T us.toArray off).run P w = .ok u w ∧ (if ag then u = .agg ((us.drop off).take s).toArray else (us.drop off).take s = [u]) := by
  cases ag with
  | true =>
    refine ⟨_, ?_, rfl⟩
    simp only [part, Sem.run_bind, run_isAgg hag, Result.andThen_ok, if_true, run_sizeOf hs]
    simp
  | false =>
    have : s = 1 := by simpa using h1
    subst this
    have hlt : off < us.length := by omega
    refine ⟨us[off], ?_, ?_⟩
    · simp [part, run_isAgg hag, hlt]
    · simp only [Bool.false_eq_true, if_false]
      have e := List.drop_eq_getElem_cons hlt
      rw [e]; rfl

theorem s_field (hI : Inv P w0 X0 n L a w G) (hd : o.dst = some d) {S : TypeId} {x : Operand} {f : Nat} (ho : o.op = .field S x f) (hop : aOp P n L wants o h = some r) : Does P w0 X0 n L o a w d r := by
  simp only [aOp, hd, ho] at hop
  split at hop
  · rename_i hlt
    have hlt' : d < n := lt_of_blt hlt
    split at hop
    · rename_i off ft cs hf hx
      obtain ⟨us, hu, hr⟩ := evV_rel hI hx
      split at hop
      · rename_i s ag hs hag
        split at hop
        · rename_i hfit
          simp only [Bool.and_eq_true, Bool.or_eq_true, Nat.ble_eq] at hfit
          obtain ⟨hf1, hf2⟩ := hfit
          replace hf2 : ag = true ∨ s = 1 := hf2.imp id Nat.eq_of_beq_eq_true
          split at hop
          · rename_i v hv
            cases hop
            have hl := hr.length
            obtain ⟨u, hrun, hu2⟩ := run_part (P := P) (w := w) (us := us) (off := off) hag hs (by omega) hf2
            obtain ⟨fs, fd, h1, h2, rfl, rfl⟩ := fieldP_spec hf
            refine does_val hd (v := u) (w' := w) (by simp [execOp, ho, hu, Instr.field, run_und h1, h2, asAgg, hrun]) (hI.setT0 (sv := .v v) hlt' (rel_ofCells hv ((hr.drop _).take s) hu2))
          · cases hop
        · cases hop
      · cases hop
    · cases hop
  · cases hop

theorem elemP_spec {T e : TypeId} (h : elemP P T = some e) : P.underlying T = some (.slice e) := by
  unfold elemP at h
  split at h
  · cases h; assumption
  · cases h

theorem s_indexAddr (hI : Inv P w0 X0 n L a w G) (hd : o.dst = some d) {T : TypeId} {x i : Operand} (ho : o.op = .indexAddr T x i) (hop : aOp P n L wants o h = some r) (hob : ∀ p ∈ r.obs, p) : Does P w0 X0 n L o a w d r := by
  simp only [aOp, hd, ho] at hop
  split at hop
  · rename_i hlt
    have hlt' : d < n := lt_of_blt hlt
    split at hop
    · rename_i e k m he hi
      have hv : a.eval i = .int k m := evV_rel hI hi
      have hT := elemP_spec he
      split at hop
      · rename_i s xs own c hs hx hh
        cases hop
        obtain ⟨h0, h1, h2⟩ := hob _ (List.mem_singleton.2 rfl)
        obtain ⟨A, len, cap, hu, hl, hc, hr⟩ := ev_rel hI hx
        have hlt2 : m.toNat < xs.length := (List.getElem?_eq_some_iff.1 h1).1
        rcases hr with hr | ⟨b, off, sz, hA, hr⟩
        · subst hr; simp at hlt2
        · obtain ⟨hsz, hrc⟩ := hr.get _ h1
          have : sz = s := by omega
          subst this
          subst hA
          subst hl
          have hlt3 : m < (xs.length : Int) := by omega
          refine does_val hd (v := .pointer (some ⟨b, off + m.toNat * sz, none⟩)) (w' := w) ?_ (hI.setT0 (sv := .v (.vptr c)) hlt' ⟨b, _, rfl, hrc⟩)
          simp [execOp, ho, hu, hv, Instr.indexAt, asIntOf, run_und hT, h0, hlt3, run_sizeOf hs, add_lit]
      · rename_i s k2 own hs hx
        split at hop
        · rename_i sz rows hr
          split at hop
          · rename_i hsz
            have hsz : sz = s := Nat.eq_of_beq_eq_true hsz
            subst hsz
            cases hop
            obtain ⟨h0, h1⟩ := hob _ (List.mem_singleton.2 rfl)
            have hu : a.eval x = .slice (some ⟨G.rx k2, 0, none⟩) rows.length rows.length := ev_rel hI hx sz rows hr
            have hlt3 : m < (rows.length : Int) := by omega
            refine does_val hd (v := .pointer (some ⟨G.rx k2, m.toNat * sz, none⟩)) (w' := w) ?_ (hI.setT0 (sv := .aptr k2 m.toNat 0) hlt' ?_)
            · simp [execOp, ho, hu, hv, Instr.indexAt, asIntOf, run_und hT, h0, hlt3, run_sizeOf hs, add_lit]
            · intro sz2 rows2 h2
              rw [hr] at h2; cases h2; rfl
          · cases hop
        · cases hop
      · cases hop
    · cases hop
  · cases hop

theorem run_callFunc {f : Nat} {args : Array Value} (h : ((P.funcs[f]?).map fun fn => fn.body.isSome && fn.name != "runtime.NumGoroutine") = some true) : (callFunc f args).run P w = .ok (.enter f args) w := by
  simp only [Option.map_eq_some_iff] at h
  obtain ⟨fn, hf, hb⟩ := h
  simp only [Bool.and_eq_true, bne_iff_ne, ne_eq] at hb
  obtain ⟨b, hc⟩ := Option.isSome_iff_exists.1 hb.1
  simp [callFunc, program, Sem.run, hf, hb.2, hc]

theorem s_call (hI : Inv P w0 X0 n L a w G) (hd : o.dst = some d) {c : Call} (ho : o.op = .call c) {g : Operand} (hg : c.callee = .value g) (hop : aOp P n L wants o h = some r) (hob : ∀ p ∈ r.obs, p) :
    Does P w0 X0 n L o a w d r := by
  simp only [aOp, hd, ho, hg] at hop
  split at hop
  · rename_i hlt
    have hlt' : d < n := lt_of_blt hlt
    split at hop
    · rename_i g' as he has
      cases he
      split at hop
      · rename_i f caps v hgv hh
        split at hop
        · rename_i hbody
          cases hop
          have hF : FnC P f (as ++ caps) v h.2 := hob _ (List.mem_singleton.2 rfl)
          obtain ⟨us2, hu, hr2⟩ := evV_rel hI hgv
          have hr1 := evVs_rel hI has
          intro Q
          unfold Oper.wp
          have hexec : (execOp a.eval o).run P w = .ok (.enter f (c.args.toList.map a.eval ++ us2).toArray) w := by
            simp only [execOp, ho, Sem.run_bind]
            simp [resolve, hg, Deferred.ofValue, hu, invoke, run_callFunc hbody]
          rw [hexec, Oper.upon_enter]
          refine (hF G.X w _ (hr1.append hr2) hI.new).mono ?_
          rintro e w1 ⟨u, X', od, rfl, hb, hX, hn, hrel, ho1, ho2⟩
          show SR P w0 X0 n _ (a.put o.dst u) w1
          rw [hd]
          have hI2 := hI.grow hb hX hn
          have hw0 : w0.heap.size ≤ w.heap.size := hI.bel.size
          refine ⟨_, hI2.setT hlt' (sv := .v v) hrel od ?_ ho2 ?_⟩
          · intro j t hj
            obtain ⟨c, hc, sz, m, us, h1, h2, h3, h4⟩ := ho1 j t hj
            refine ⟨c, hc, sz, m, us, h1, ?_, h3, h4⟩
            refine ⟨h2.1, h2.2.imp id fun ⟨g, cap, cur, e1, e2, rest⟩ => ⟨g, cap, cur, e1, by omega, rest⟩⟩
          · intro j t q b hj hq hne e1 e2
            obtain ⟨c, hc, hok⟩ := ho1 j t hj
            have h1 := (hok.lt b e1).1
            have h2 := Look.blk_lt hI q b hq (by
              rw [← e2]; cases q <;> rfl)
            omega
        · cases hop
      · cases hop
    · rename_i he _; cases he
    · rename_i he _; cases he
    · rename_i he _; cases he
    · cases hop
  · cases hop

theorem s_bin (hI : Inv P w0 X0 n L a w G) (hd : o.dst = some d) {c : Call} (ho : o.op = .call c) {b : Builtin} (hg : c.callee = .builtin b) (hop : aOp P n L wants o h = some r) (hob : ∀ p ∈ r.obs, p) :
    Does P w0 X0 n L o a w d r := by
  simp only [aOp, hd, ho, hg] at hop
  split at hop
  · rename_i hlt
    have hlt' : d < n := lt_of_blt hlt
    split at hop
    · rename_i he _; cases he
    · -- len
      rename_i v he has
      cases he
      have hr1 := evVs_rel hI has
      obtain ⟨u, rs, e1, hu, e2⟩ := hr1
      rw [show rs = [] from e2] at e1
      have hargs : c.args.map a.eval = #[u] := by apply Array.ext'; simpa using e1
      split at hop
      · rename_i e xs hT
        simp only [Option.bind_eq_some_iff] at hT
        obtain ⟨t, ht, hT⟩ := hT
        obtain ⟨A, len, cap, hu', hl, _⟩ := hu
        subst hl
        refine does_val hd (v := .int .i64 xs.length) (w' := w) ?_ (sr_fin hI hlt' hop hob rfl)
        simp [execOp, ho, resolve, hg, invoke, builtin, hargs, Builtin.len_, ht, run_und hT, hu', goInt]
      · rename_i s hT
        simp only [Option.bind_eq_some_iff] at hT
        obtain ⟨t, ht, hT⟩ := hT
        have hu' : u = .string s := hu
        refine does_val hd (v := .int .i64 s.size) (w' := w) ?_ (sr_fin hI hlt' hop hob rfl)
        simp [execOp, ho, resolve, hg, invoke, builtin, hargs, Builtin.len_, ht, run_und hT, hu', goInt]
      · cases hop
    · -- max
      rename_i k m k' m' he has
      cases he
      obtain ⟨u, rs, e1, hu, u2, rs2, e2, hu2, e3⟩ := evVs_rel hI has
      rw [show rs2 = [] from e3] at e2
      rw [e2] at e1
      have hargs : c.args.map a.eval = #[.int k m, .int k' m'] := by
        apply Array.ext'; rw [show u = _ from hu, show u2 = _ from hu2] at e1; simpa using e1
      split at hop
      · rename_i hk; subst hk
        refine does_val hd (v := .int k (if m' > m then m' else m)) (w' := w) ?_ (sr_fin hI hlt' hop hob rfl)
        simp [execOp, ho, resolve, hg, invoke, builtin, hargs, Builtin.max_, Builtin.max2]
      · cases hop
    · rename_i k m k' m' he has
      cases he
      obtain ⟨u, rs, e1, hu, u2, rs2, e2, hu2, e3⟩ := evVs_rel hI has
      rw [show rs2 = [] from e3] at e2
      rw [e2] at e1
      have hargs : c.args.map a.eval = #[.int k m, .int k' m'] := by
        apply Array.ext'; rw [show u = _ from hu, show u2 = _ from hu2] at e1; simpa using e1
      split at hop
      · rename_i hk; subst hk
        refine does_val hd (v := .int k (if m' < m then m' else m)) (w' := w) ?_ (sr_fin hI hlt' hop hob rfl)
        simp [execOp, ho, resolve, hg, invoke, builtin, hargs, Builtin.min_, Builtin.min2]
      · cases hop
    · cases hop
  · cases hop

theorem s_makeFunc (hI : Inv P w0 X0 n L a w G) (hd : o.dst = some d) {fn : Fn} {first captured : Array Operand} (ho : o.op = .makeFunc fn first captured) (hop : aOp P n L wants o h = some r) : Does P w0 X0 n L o a w d r := by
  simp only [aOp, hd, ho] at hop
  split at hop
  · rename_i hlt
    have hlt' : d < n := lt_of_blt hlt
    cases fn with
    | func f =>
      simp only at hop
      split at hop
      · rename_i caps hc
        split at hop
        · rename_i hf
          cases hop
          have hr := evVs_rel hI hc
          refine does_val hd (v := .func (.func f) #[] (captured.map a.eval)) (w' := w) ?_ (hI.setT0 (sv := .v (.func f caps)) hlt' ⟨captured.toList.map a.eval, by congr 1; apply Array.ext'; simp, hr⟩)
          have : first = #[] := Array.eq_empty_of_size_eq_zero hf
          simp [execOp, ho, Instr.makeFunc, this]
        · cases hop
      · cases hop
    | _ => cases hop
  · cases hop
end Go.Av

/- Memory that is made. -/
namespace Go.Av
open Go.RowKit
variable {P : Program} {w0 : World} {X0 : Gh} {n : Nat} {L : Look} {a : Act} {w w' : World} {G : Gho} {o : Oper} {K : Act → World → Prop} {Q : Exit → Act → World → Prop}
  {wants : Nat → Bool} {h : Hint} {r : Res} {d : Nat}

theorem setAll_length {α : Type} : ∀ (vs us : List α) (off : Nat), (setAll us off vs).length = us.length
  | [], us, off => rfl
  | v :: vs, us, off => by rw [setAll, setAll_length vs]; simp

theorem setAll_eq {α : Type} : ∀ (vs us : List α) (off : Nat), off + vs.length ≤ us.length → setAll us off vs = us.take off ++ vs ++ us.drop (off + vs.length)
  | [], us, off, h => by simp [setAll]
  | v :: vs, us, off, h => by
    simp only [List.length_cons] at h
    rw [setAll, setAll_eq vs _ _ (by simp; omega)]
    have h1 : (us.set off v).take (off + 1) = us.take off ++ [v] := by
      rw [List.take_set, List.take_succ_eq_append_getElem (by omega), List.set_append]
      simp [Nat.min_eq_left (show off ≤ us.length by omega)]
    have h2 : (us.set off v).drop (off + 1 + vs.length) = us.drop (off + (vs.length + 1)) := by
      rw [List.drop_set]
      simp [show off < off + 1 + vs.length by omega]
      congr 1; omega
    rw [h1, h2]; simp [List.append_assoc]

theorem RelL.setAll {X : Gh} : ∀ {new : List AV} {vnew : List Value} {cs : List AV} {us : List Value} (off : Nat), RelL X w new vnew → RelL X w cs us → RelL X w (setAll cs off new) (setAll us off vnew)
  | [], vnew, cs, us, off, h1, h2 => by rw [show vnew = [] from h1]; exact h2
  | c :: new, vnew, cs, us, off, ⟨u, r, e, h1, h3⟩, h2 => by
    rw [e]; exact RelL.setAll (off + 1) h3 (h2.set off h1)

theorem foldl_setAll (off : Nat) : ∀ (vs : List Value) (k : Nat) (cells : Array Value),
    ((vs.zipIdx k).foldl (fun cs (x : Value × Nat) => cs.setIfInBounds (off + x.2) x.1) cells).toList = setAll cells.toList (off + k) vs
  | [], k, cells => rfl
  | v :: vs, k, cells => by
    rw [List.zipIdx_cons, List.foldl_cons, foldl_setAll off vs (k + 1)]
    simp only [Array.toList_setIfInBounds, setAll]
    rw [Nat.add_assoc]

theorem fill_cons {place : Nat → Option (Nat × Nat)} {cells : Array Value} {i off size : Nat} {v : Value} {rest : List (Nat × Value)} (hp : place i = some (off, size)) (hs : v.cells.size = size)
    (hf : off + size ≤ cells.size) : Instr.fill place cells ((i, v) :: rest) = Instr.fill place (setAll cells.toList off v.cells.toList).toArray rest := by
  have h1 : ¬ (off + v.cells.size > cells.size) := by omega
  simp only [Instr.fill, hp, hs, ne_eq, not_true_eq_false, decide_false, Bool.false_or, decide_eq_true_eq, hs ▸ h1, if_false, Bool.false_eq_true]
  congr 1
  apply Array.ext'
  have := foldl_setAll off v.cells.toList 0 cells
  rw [Nat.add_zero] at this
  rw [← this, ← Array.foldl_toList]
  simp

theorem zeroP_spec {T : TypeId} {zs : List AV} (h : zeroP P T = some zs) : ∃ i z, P.info? T = some i ∧ i.zero = some z ∧ avConsts z.cells.toList = some zs := by
  unfold zeroP at h
  simp only [Option.bind_eq_some_iff] at h
  obtain ⟨i, hi, z, hz, h⟩ := h
  exact ⟨i, z, hi, hz, h⟩

theorem run_zeroValue {T : TypeId} {i : TypeInfo} {z : Value} (hi : P.info? T = some i) (hz : i.zero = some z) : (zeroValue T).run P w = .ok z w := by
  simp [zeroValue, typeInfo, program, Sem.run, hi, hz]

/-- No slot but d itself leads into what d holds. -/
def NoPtr (L : Look) (d : Nat) : Prop := ∀ s sv own, s ≠ d → L.t s = some (sv, own) → (∀ off, sv ≠ .ptr d off) ∧ sv ≠ .arr d ∧ (∀ i off, sv ≠ .aptr d i off)

theorem NoPtr.forget (L : Look) (d : Nat) : NoPtr (L.upd (.f d)) d := by
  intro s sv own _ he
  simp only [Look.upd] at he
  split at he
  · rename_i e _
    split at he
    · cases he
    · rename_i hf
      cases he
      refine ⟨?_, ?_, ?_⟩
      · rintro off rfl; simp [SV.into] at hf
      · rintro rfl; simp [SV.into] at hf
      · rintro i off rfl; simp [SV.into] at hf
  · cases he

theorem Inv.forget (h : Inv P w0 X0 n L a w G) (d : Nat) : Inv P w0 X0 n (L.upd (.f d)) a w G := by
  refine h.less ?_ (fun d cs own e => ⟨own, e, fun x hx => hx⟩) (fun d e he => he)
  intro s sv own he
  simp only [Look.upd] at he
  split at he
  · rename_i e he'
    split at he
    · cases he
    · cases he; exact ⟨own, he', fun x hx => hx⟩
  · cases he

theorem has_forget {d : Nat} {q : EP} (h : (L.upd (.f d)).has q) : L.has q := by
  cases q with
  | box k => exact h
  | row k => exact h
  | own p =>
    cases p with
    | b k j => exact h
    | t s j =>
      obtain ⟨sv, own, e, he, hm⟩ := h
      simp only [Look.upd] at he
      split at he
      · rename_i e' he'
        split at he
        · cases he
        · cases he; exact ⟨sv, own, e, he', hm⟩
      · cases he

theorem s_alloc (hI : Inv P w0 X0 n L a w G) (hd : o.dst = some d) {T : TypeId} (ho : o.op = .alloc T) (hop : aOp P n L wants o h = some r) : Does P w0 X0 n L o a w d r := by
  simp only [aOp, hd, ho] at hop
  split at hop
  · rename_i hlt
    have hlt' : d < n := lt_of_blt hlt
    split at hop
    · rename_i zs hz
      cases hop
      obtain ⟨i, z, hi, hzz, hc⟩ := zeroP_spec hz
      have hN := NoPtr.forget L d
      refine does_val hd (v := .pointer (some ⟨w.heap.size, 0, none⟩)) (w' := w.alloc (.cells z.cells T)) ?_ ?_
      · simp [execOp, ho, Instr.alloc, run_zeroValue hi hzz, newVar, newRow]
      · refine (hI.forget d).newBox hlt' (fun s off own hs he => (hN s _ own hs he).1 off rfl) (avConsts_rel hc) (fun _ => none) ?_ ?_ ?_
        · intro j t hj
          simp only [zeroOwn, hi, Option.bind_some, hzz, List.mem_filter] at hj
          obtain ⟨_, hj⟩ := hj
          split at hj
          · rename_i hv
            exact ⟨_, hv, ownOk_nil hj⟩
          · cases hj
        · intro j e k e' b hj hk e1; cases e1
        · intro j e q b hj hk e1; cases e1
    · cases hop
  · cases hop

theorem flat_cells {u : Value} (h : ∀ vs, u ≠ .tuple vs) : Value.flat u = u.cells.toList := by
  cases u <;> first | rfl | exact absurd rfl (h _)

theorem rel_notuple {X : Gh} {x : AV} {u : Value} (h : Rel X w x u) (hs : x.solid = true) : ∀ vs, u ≠ .tuple vs := by
  intro vs e
  subst e
  cases x with
  | int k m => cases h
  | bool b => cases h
  | str s => cases h
  | agg cs => obtain ⟨us, e, _⟩ := h; cases e
  | tup cs => simp [AV.solid] at hs
  | sl xs => obtain ⟨A, len, cap, e, _⟩ := h; cases e
  | vptr cs => obtain ⟨b, f, e, _⟩ := h; cases e
  | func f cs => obtain ⟨us, e, _⟩ := h; cases e
  | undef => simp [AV.solid] at hs

theorem rel_solid {X : Gh} {x : AV} {u : Value} (h : Rel X w x u) (hs : x.solid = true) : RelL X w x.cells u.cells.toList :=
  h.cells (by intro e; subst e; simp [AV.solid] at hs) (by intro vs e; subst e; simp [AV.solid] at hs)

theorem s_box (hI : Inv P w0 X0 n L a w G) (hd : o.dst = some d) {T : TypeId} {x : Operand} (ho : o.op = .box T x) (hop : aOp P n L wants o h = some r) : Does P w0 X0 n L o a w d r := by
  simp only [aOp, hd, ho] at hop
  split at hop
  · rename_i hlt
    have hlt' : d < n := lt_of_blt hlt
    split at hop
    · rename_i av own pre hg
      split at hop
      · rename_i hsol
        cases hop
        have hexec : (execOp a.eval o).run P w = .ok (.value (.pointer (some ⟨w.heap.size, 0, none⟩))) (w.alloc (.cells (a.eval x).cells T)) := by
          simp [execOp, ho, Instr.box, newVar, newRow]
        refine does_val hd hexec ?_
        have plain : ∀ {av : AV}, Rel G.X w av (a.eval x) → av.solid = true → SR P w0 X0 n (((L.upd (.f d)).upd (.b d (av.cells, []))).upd (.t d (.ptr d 0, []))) (a.put (some d) (.pointer (some ⟨w.heap.size, 0, none⟩))) (w.alloc (.cells (a.eval x).cells T)) := by
          intro av hrel hsol
          have hN := NoPtr.forget L d
          exact (hI.forget d).newBox hlt' (fun s off own hs he => (hN s _ own hs he).1 off rfl) (rel_solid hrel hsol) (fun _ => none) (by simp) (by simp) (by simp)
        unfold grab at hg
        split at hg
        · rename_i t
          split at hg
          · rename_i sv' own' ht
            have hrel : Rel G.X w av ((a.eval (.tmp t))) := by
              have := (hI.tm t sv' own' ht).2
              split at hg <;> cases hg <;> exact this
            have hflat := flat_cells (rel_notuple hrel hsol)
            split at hg
            · cases hg
              simp only [List.cons_append, List.nil_append, Look.upds, List.foldl_cons, List.foldl_nil]
              have hcl := (hI.clearT ht).forget d
              have hN := NoPtr.forget (L.upd (.t t (.v av, []))) d
              refine hcl.newBox hlt' (fun s off own hs he => (hN s _ own hs he).1 off rfl) (rel_solid hrel hsol) (fun j => G.ow (.t t j)) ?_ ?_ ?_
              · intro j e hj
                obtain ⟨c, hc, hok⟩ := hI.ot t _ _ j e ht hj
                refine ⟨c, ?_, hok⟩
                have hfl : Value.flat (a.tmps.getD t undef) = (a.eval (.tmp t)).cells.toList := hflat
                rw [hfl] at hc
                simpa using hc
              · intro j e k e' b hj hk e1 e2
                have := hI.dist (.own (.t t j)) (.own (.t t k)) b ⟨_, _, e, ht, hj⟩ ⟨_, _, e', ht, hk⟩ e1 e2
                simpa using this
              · intro j e q b hj hq e1 e2
                replace hq := has_forget hq
                have hq' : L.has q ∧ ∀ k, q ≠ .own (.t t k) := by
                  cases q with
                  | box k' => exact ⟨hq, by simp⟩
                  | row k' => exact ⟨hq, by simp⟩
                  | own p =>
                    cases p with
                    | b k' j' => exact ⟨hq, by simp⟩
                    | t k' j' =>
                      obtain ⟨z1, z2, z3, hz, hz'⟩ := hq
                      by_cases ek : k' = t
                      · subst ek
                        simp only [Look.upd, if_pos] at hz
                        cases hz
                        simp at hz'
                      · simp only [Look.upd, if_neg ek] at hz; exact ⟨⟨z1, z2, z3, hz, hz'⟩, by simpa using ek⟩
                have := hI.dist (.own (.t t j)) q b ⟨_, _, e, ht, hj⟩ hq'.1 e1 e2
                exact hq'.2 j this.symm
            · cases hg
              simp only [List.nil_append, Look.upds, List.foldl_cons, List.foldl_nil, List.cons_append]
              exact plain hrel hsol
          · cases hg
        · split at hg
          · rename_i sv' own' ht
            cases hg
            simp only [List.nil_append, Look.upds, List.foldl_cons, List.foldl_nil, List.cons_append]
            exact plain (ev_rel hI ht) hsol
          · cases hg
      · cases hop
    · cases hop
  · cases hop
end Go.Av

/- Aggregates, slices that are made. -/
namespace Go.Av
open Go.RowKit
variable {P : Program} {w0 : World} {X0 : Gh} {n : Nat} {L : Look} {a : Act} {w w' : World} {G : Gho} {o : Oper} {K : Act → World → Prop} {Q : Exit → Act → World → Prop}
  {wants : Nat → Bool} {h : Hint} {r : Res} {d : Nat}

theorem fill_build (hI : Inv P w0 X0 n L a w G) (ps : List (Nat × Nat)) : ∀ (parts : List (Nat × Operand)) (cs cs' : List AV) (us : Array Value), buildC L ps parts cs = some cs' → RelL G.X w cs us.toList →
    ∃ us', Instr.fill (ps[·]?) us (parts.map fun p => (p.1, a.eval p.2)) = some us' ∧ RelL G.X w cs' us'.toList
  | [], cs, cs', us, hb, hr => by simp [buildC] at hb; subst hb; exact ⟨us, rfl, hr⟩
  | (i, x) :: rest, cs, cs', us, hb, hr => by
    simp only [buildC] at hb
    split at hb
    · rename_i off s av hp hv
      split at hb
      · rename_i hc
        simp only [Bool.and_eq_true, Nat.ble_eq] at hc
        obtain ⟨⟨h1, h2⟩, h3⟩ := hc
        have h2' := Nat.eq_of_beq_eq_true h2
        have hrel := evV_rel hI hv
        have hcells := rel_solid hrel h1
        have hl := hcells.length
        have hl2 := hr.length
        obtain ⟨us', e1, e2⟩ := fill_build hI ps rest _ cs' (setAll us.toList off (a.eval x).cells.toList).toArray hb (by simpa using RelL.setAll off hcells hr)
        refine ⟨us', ?_, e2⟩
        rw [List.map_cons, fill_cons (place := (ps[·]?)) (off := off) (size := s) hp (by rw [← h2', ← hl]; simp) (by
          have : us.size = cs.length := by rw [← hl2]; simp
          omega)]
        exact e1
      · cases hb
    · cases hb

theorem run_places : ∀ (fs : List Field) (ps : List (Nat × Nat)), placesOf P fs = some ps → (fs.mapM fun f => do pure (f.offset, ← sizeOf f.type) : Sem (List (Nat × Nat))).run P w = .ok ps w
  | [], ps, h => by simp [placesOf] at h; subst h; simp
  | f :: fs, ps, h => by
    simp only [placesOf] at h
    split at h
    · rename_i s r hs hr
      cases h
      have := run_places fs r hr
      simp only [List.mapM_cons, Sem.run_bind, run_sizeOf hs, Result.andThen_ok, Sem.run_pure, this]
    · cases h

theorem s_build (hI : Inv P w0 X0 n L a w G) (hd : o.dst = some d) {T : TypeId} {parts : Array (Nat × Operand)} (ho : o.op = .build T parts) (hop : aOp P n L wants o h = some r) : Does P w0 X0 n L o a w d r := by
  simp only [aOp, hd, ho] at hop
  split at hop
  · rename_i hlt
    have hlt' : d < n := lt_of_blt hlt
    split at hop
    · rename_i zs fs hz hT
      split at hop
      · rename_i ps hps
        split at hop
        · rename_i cs hc
          cases hop
          obtain ⟨i, z, hi, hzz, hcz⟩ := zeroP_spec hz
          obtain ⟨us', e1, e2⟩ := fill_build hI ps parts.toList zs cs z.cells hc (avConsts_rel hcz)
          refine does_val hd (v := .agg us') (w' := w) ?_ (hI.setT0 (sv := .v (.agg cs)) hlt' ⟨us'.toList, by simp, e2⟩)
          have hm : (fs.mapM fun f => do pure (f.offset, ← sizeOf f.type) : Sem (Array (Nat × Nat))).run P w = .ok ps.toArray w := by
            rw [Array.mapM_eq_mapM_toList]
            have := run_places (P := P) (w := w) fs.toList ps hps
            simp only [Sem.run_map, this, Result.andThen_ok]
          have hp : (parts.map fun (x : Nat × Operand) => (x.1, a.eval x.2)).toList = parts.toList.map fun p => (p.1, a.eval p.2) := by simp
          simp only [execOp, ho, Instr.build, Sem.run_bind, run_zeroValue hi hzz, Result.andThen_ok, run_und hT, hm]
          simp only [hp, List.getElem?_toArray]
          rw [e1]
          simp
        · cases hop
      · cases hop
    · cases hop
  · cases hop

theorem fill_parts (hI : Inv P w0 X0 n L a w G) {s : Nat} : ∀ (parts : List (Nat × Operand)) (k : Nat) (as : List (List AV)) (us : Array Value) (pre : List AV), partsC L s k parts = some as →
    RelL G.X w pre (us.toList.take (k * s)) → us.size = (k + parts.length) * s →
    ∃ us', Instr.fill (fun i => some (i * s, s)) us (parts.map fun p => (p.1, a.eval p.2)) = some us' ∧ RelL G.X w (pre ++ as.flatten) us'.toList ∧ (∀ c ∈ as, c.length = s) ∧ us'.size = us.size
  | [], k, as, us, pre, hb, hr, hl => by
    simp [partsC] at hb; subst hb
    refine ⟨us, rfl, ?_, by simp, rfl⟩
    simp only [List.length_nil, Nat.add_zero] at hl
    rw [List.take_of_length_le (by simp; omega)] at hr
    simpa using hr
  | (i, x) :: rest, k, as, us, pre, hb, hr, hl => by
    simp only [partsC] at hb
    split at hb
    · rename_i av as' hv hrest
      split at hb
      · rename_i hc
        simp only [Bool.and_eq_true] at hc
        obtain ⟨⟨h1, h2⟩, h3⟩ := hc
        cases hb
        have hik : i = k := Nat.eq_of_beq_eq_true h1
        have hs := Nat.eq_of_beq_eq_true h3
        subst hik
        have hrel := evV_rel hI hv
        have hcells := rel_solid hrel h2
        have hcl := hcells.length
        have hmul : (i + ((i, x) :: rest).length) * s = i * s + s + rest.length * s := by
          simp only [List.length_cons]; rw [Nat.add_mul, Nat.add_mul]; omega
        rw [hmul] at hl
        have hfit : i * s + s ≤ us.size := by omega
        have hset : setAll us.toList (i * s) (a.eval x).cells.toList = us.toList.take (i * s) ++ (a.eval x).cells.toList ++ us.toList.drop (i * s + (a.eval x).cells.toList.length) :=
          setAll_eq _ _ _ (by rw [hcl, hs]; simpa using hfit)
        obtain ⟨us', e1, e2, e3, e4⟩ := fill_parts hI rest (i + 1) as' (setAll us.toList (i * s) (a.eval x).cells.toList).toArray (pre ++ av.cells) hrest (by
            simp only [List.toList_toArray]
            rw [hset]
            have : (i + 1) * s = (us.toList.take (i * s) ++ (a.eval x).cells.toList).length := by
              rw [List.length_append, List.length_take, hcl, hs, Nat.add_mul]; simp; omega
            rw [this, List.take_left]
            exact hr.append hcells) (by simp only [List.size_toArray, setAll_length]; simp; rw [hl, Nat.add_mul, Nat.add_mul]; omega)
        refine ⟨us', ?_, ?_, ?_, by rw [e4]; simp [setAll_length]⟩
        · rw [List.map_cons, fill_cons (place := fun i => some (i * s, s)) (off := i * s) (size := s) rfl (by rw [← hs, ← hcl]; simp) hfit]
          exact e1
        · rw [List.flatten_cons, ← List.append_assoc]; exact e2
        · intro c hc
          rcases List.mem_cons.1 hc with rfl | hc
          · exact hs
          · exact e3 c hc
      · cases hb
    · cases hb

/-- A row that is made, which its slot holds alone. -/
theorem sr_ownNew (h : Inv P w0 X0 n L a w G) {d : Nat} (hd : d < n) {us : Array Value} {e : TypeId} {s : Nat} {as : List (List AV)} (hs : sizeP P e = some s) (hlens : ∀ c ∈ as, c.length = s)
    (hrel : RelL G.X w as.flatten us.toList) (hsz : us.size = as.length * s) (hm : as.length ≤ maxLen) :
    SR P w0 X0 n (L.upd (.t d (.v (.sl as), [(0, e)]))) (a.put (some d) (.slice (some ⟨w.heap.size, 0, none⟩) as.length as.length)) (w.alloc (.cells us e)) := by
  let X' : Gh := fun b => if b = w.heap.size then some (as.length * s) else G.X b
  have hBel : Below w.heap.size w (w.alloc (.cells us e)) := (Below.refl _ _).alloc (Nat.le_refl _) _
  have hXe : ∀ b, b < w.heap.size → X' b = G.X b := fun b hb => by simp only [X']; rw [if_neg (by omega)]
  have h2 := h.grow (X' := X') hBel hXe (fun b hb => by
    simp only [World.size_alloc] at hb
    simp only [X']; rw [if_neg (by omega)]; exact h.new b (by omega))
  have hE : Ext G.X w X' (w.alloc (.cells us e)) := Ext.below hBel hXe
  have hnew : (w.alloc (.cells us e)).heap[w.heap.size]? = some (.cells us e (0, 0)) := heap_alloc_new w _
  refine ⟨_, h2.setT hd (sv := .v (.sl as)) ?_ (fun _ => some w.heap.size) ?_ ?_ ?_⟩
  · refine ⟨_, _, _, rfl, rfl, Nat.le_refl _, .inr ⟨w.heap.size, 0, s, rfl, ?_⟩⟩
    refine relE_of (X := X') (Ext.refl _ _) as us.toList 0 hlens (RelL.mono hE _ _ hrel) (fun j u hj => by rw [cell_row hnew]; simpa using hj) ?_
    intro j hj
    simp [okc, X', hj]
  · intro j t hj
    simp at hj
    obtain ⟨rfl, rfl⟩ := hj
    refine ⟨_, rfl, s, as.length, us.toList, hs, ⟨by simpa using hsz, .inr ⟨w.heap.size, as.length, us, rfl, h.bel.size, hnew, Nat.le_refl _, hm, hsz, ?_⟩⟩, rfl, ?_⟩
    · rw [List.take_of_length_le (by simp; omega)]
    · intro b hb; cases hb; simp [X']
  · intro j t k t' b hj hk _ _
    simp at hj hk
    rw [hj.1, hk.1]
  · intro j t q b hj hq hne e1 e2
    cases e1
    have := Look.blk_lt h q _ hq (by rw [← e2]; cases q <;> rfl)
    omega

theorem s_buildSlice (hI : Inv P w0 X0 n L a w G) (hd : o.dst = some d) {T : TypeId} {len : Nat} {parts : Array (Nat × Operand)} (ho : o.op = .buildSlice T len parts) (hop : aOp P n L wants o h = some r) :
    Does P w0 X0 n L o a w d r := by
  simp only [aOp, hd, ho] at hop
  split at hop
  · rename_i hlt
    have hlt' : d < n := lt_of_blt hlt
    split at hop
    · rename_i e he
      split at hop
      · rename_i s hs
        split at hop
        · rename_i as hp
          split at hop
          · rename_i hc
            simp only [Bool.and_eq_true, Nat.ble_eq] at hc
            obtain ⟨⟨⟨h1, h2⟩, h3⟩, h4⟩ := hc
            cases hop
            have hlen : as.length = len := Nat.eq_of_beq_eq_true h1
            have hpl : as.length = parts.toList.length := by
              have : ∀ (parts : List (Nat × Operand)) (k : Nat) (as : List (List AV)), partsC L s k parts = some as → as.length = parts.length := by
                intro parts
                induction parts with
                | nil => intro k as h; simp [partsC] at h; subst h; rfl
                | cons p rest ih =>
                  obtain ⟨i, x⟩ := p
                  intro k as h
                  simp only [partsC] at h
                  split at h
                  · rename_i av as' _ hr
                    split at h
                    · cases h; simp [ih _ _ hr]
                    · cases h
                  · cases h
              exact this _ _ _ hp
            have hT := elemP_spec he
            -- the zero cells
            have hinfo : ∃ i, P.info? e = some i ∧ i.size = s := by
              unfold sizeP at hs
              simp only [Option.map_eq_some_iff] at hs
              exact hs
            obtain ⟨i, hi, his⟩ := hinfo
            have hspos : 0 < s := lt_of_blt h2
            by_cases hl0 : len = 0
            · subst hl0
              have has : as = [] := List.eq_nil_of_length_eq_zero hlen
              subst has
              have hpn : parts.toList = [] := List.eq_nil_of_length_eq_zero (by rw [← hpl]; rfl)
              refine does_val hd (v := .slice (some ⟨w.heap.size, 0, none⟩) 0 0) (w' := w.alloc (.cells #[] e)) ?_ ?_
              · have hpe : parts = #[] := by apply Array.ext'; simpa using hpn
                simp [execOp, ho, Instr.buildSlice, run_und hT, run_sizeOf hs, hpe, Instr.fill, newRow, show Array.range 0 = #[] from rfl]
              · exact sr_ownNew hI hlt' (us := #[]) hs (by simp) rfl (by simp) (by simp [maxLen])
            · obtain ⟨zs, hzs⟩ := Option.isSome_iff_exists.1 h4
              obtain ⟨i2, z, hi2, hzz, hcz⟩ := zeroP_spec hzs
              have hpos : ¬ (len * s = 0) := by
                intro e0
                rcases Nat.mul_eq_zero.1 e0 with e0 | e0
                · exact hl0 e0
                · omega
              obtain ⟨us', e1, e2, e3, e4⟩ := fill_parts hI parts.toList 0 as ((Array.range (len * s)).map (z.cells[· % z.cells.size]!)) [] hp (by simp; rfl) (by simp [← hpl, hlen])
              simp only [Array.size_map, Array.size_range] at e4
              have hbig : ¬ (16777216 < len * s) := by omega
              refine does_val hd (v := .slice (some ⟨w.heap.size, 0, none⟩) as.length as.length) (w' := w.alloc (.cells us' e)) ?_ ?_
              · have hp' : (parts.map fun (x : Nat × Operand) => (x.1, a.eval x.2)).toList = parts.toList.map fun p => (p.1, a.eval p.2) := by simp
                simp only [execOp, ho, Instr.buildSlice, Sem.run_bind, run_und hT, run_sizeOf hs, Result.andThen_ok, run_zeroValue hi2 hzz]
                rw [if_neg (by simpa using hbig)]
                simp only [if_neg hpos, Sem.run_bind, run_zeroValue hi2 hzz, Result.andThen_ok, Sem.run_pure, hp', e1, newRow]
                simp [hlen]
              · exact sr_ownNew hI hlt' hs e3 (by simpa using e2) (by rw [e4, hlen]) (by
                  have : len ≤ len * s := Nat.le_mul_of_pos_right _ hspos
                  unfold maxLen; omega)
          · cases hop
        · cases hop
      · cases hop
    · cases hop
  · cases hop
end Go.Av

/- make, slices of slices. -/
namespace Go.Av
open Go.RowKit
variable {P : Program} {w0 : World} {X0 : Gh} {n : Nat} {L : Look} {a : Act} {w w' : World} {G : Gho} {o : Oper} {K : Act → World → Prop} {Q : Exit → Act → World → Prop}
  {wants : Nat → Bool} {h : Hint} {r : Res} {d : Nat}

theorem made_list (z : Array Value) : ∀ m : Nat, (madeCells z (m * z.size)).toList = (List.replicate m z.toList).flatten
  | 0 => by simp [madeCells]
  | m + 1 => by
    have ih := made_list z m
    have e : (m + 1) * z.size = m * z.size + z.size := by rw [Nat.add_mul]; omega
    rw [List.replicate_succ', List.flatten_append, ← ih, e]
    simp only [madeCells]
    rw [Array.range_add]
    simp only [Array.map_append, Array.toList_append]
    congr 1
    simp only [List.flatten_cons, List.flatten_nil, List.append_nil]
    apply List.ext_getElem
    · simp
    · intro i h1 h2
      have h2' : i < z.size := by simpa using h2
      have : (m * z.size + i) % z.size = i := by
        rw [Nat.mul_comm, Nat.mul_add_mod, Nat.mod_eq_of_lt h2']
      simp [this, h2']

theorem relL_replicate {X : Gh} {zs : List AV} {us : List Value} (h : RelL X w zs us) : ∀ m, RelL X w (List.replicate m zs).flatten (List.replicate m us).flatten
  | 0 => rfl
  | m + 1 => by
    rw [List.replicate_succ, List.replicate_succ, List.flatten_cons, List.flatten_cons]
    exact h.append (relL_replicate h m)

theorem s_makeSlice (hI : Inv P w0 X0 n L a w G) (hd : o.dst = some d) {T : TypeId} {x y : Operand} (ho : o.op = .makeSlice T x y) (hop : aOp P n L wants o h = some r) (hob : ∀ p ∈ r.obs, p)
    : Does P w0 X0 n L o a w d r := by
  simp only [aOp, hd, ho] at hop
  split at hop
  · rename_i hlt
    have hlt' : d < n := lt_of_blt hlt
    · have hN := NoPtr.forget L d
      split at hop
      · rename_i e k m k' m' he hx hy
        have hu : a.eval x = .int k m := evV_rel hI hx
        have hv : a.eval y = .int k' m' := evV_rel hI hy
        split at hop
        · rename_i s zs by' hs hz hby
          split at hop
          · rename_i hc
            simp only [Bool.and_eq_true, Nat.ble_eq] at hc
            obtain ⟨⟨h1, h2⟩, h3⟩ := hc
            have hzl : zs.length = s := Nat.eq_of_beq_eq_true h1
            cases hop
            obtain ⟨h0, h5, h6⟩ := hob _ (List.mem_singleton.2 rfl)
            replace h5 := h5.symm
            subst h5
            obtain ⟨i, z, hi, hzz, hcz⟩ := zeroP_spec hz
            have hzr : RelL G.X w zs z.cells.toList := avConsts_rel hcz
            have hsz : i.size = s := by simp [sizeP, hi] at hs; exact hs
            have hbi : i.bytes = by' := by simp [bytesP, hi] at hby; exact hby
            have hzs : z.cells.size = s := by rw [← hzl, ← hzr.length]; simp
            have hT := elemP_spec he
            have hbytes : (i.bytes : Int) * m ≤ 281474976710656 := by
              have h7 : (i.bytes : Int) ≤ 4096 := by omega
              have := Int.mul_le_mul h7 h6 h0 (by omega)
              omega
            have hr := run_make (P := P) w T e i z hT hi hzz k k' m m h0 (Int.le_refl _) hbytes (by omega)
            have hm : ((List.replicate m.toNat zs).length) = m.toNat := by simp
            have := (hI.forget d).newRow (us := madeCells z.cells (m.toNat * i.size)) (sz := s) (rows := List.replicate m.toNat zs) (e := e) hlt' (fun s own hs he => (hN s _ own hs he).2.1 rfl)
              (fun s i off own hs he => (hN s _ own hs he).2.2 i off rfl) (by intro c hc; rw [(List.mem_replicate.1 hc).2]; exact hzl) (by
                rw [hsz, ← hzs, made_list]; exact relL_replicate hzr _)
            rw [hm] at this
            refine does_val hd (v := .slice (some ⟨w.heap.size, 0, none⟩) m.toNat m.toNat) (w' := w.alloc (.cells (madeCells z.cells (m.toNat * i.size)) e)) ?_ this
            simp only [execOp, ho, hu, hv, Sem.run_bind, hr, Result.andThen_ok, Sem.run_pure]
          · cases hop
        · cases hop
      · cases hop
  · cases hop

theorem optInt_spec (hI : Inv P w0 X0 n L a w G) {x : Option Operand} {l : Option Int} (h : optInt L x = some l) : (x = none ∧ l = none) ∨ ∃ y k m, x = some y ∧ l = some m ∧ a.eval y = .int k m := by
  cases x with
  | none => simp [optInt] at h; subst h; exact .inl ⟨rfl, rfl⟩
  | some y =>
    simp only [optInt] at h
    split at h
    · rename_i k m hy
      cases h
      exact .inr ⟨y, k, m, rfl, rfl, evV_rel hI hy⟩
    · cases h

theorem run_bound {k : IntKind} {m : Int} {y : Nat} {c : BoundsCode} (h0 : 0 ≤ m) (h1 : m ≤ (y : Int)) : (Instr.sliceBound (.int k m) y c).run P w = .ok m.toNat w := by
  simp [Instr.sliceBound, asIntOf, h0, h1]

theorem run_bounds (hI : Inv P w0 X0 n L a w G) {lo hi : Option Operand} {l hh : Option Int} (hl : optInt L lo = some l) (hhi : optInt L hi = some hh) (b : Bool) (len cap : Nat)
    (h1 : 0 ≤ l.getD 0) (h2 : l.getD 0 ≤ hh.getD len) (h3 : hh.getD len ≤ (len : Int)) (h4 : len ≤ cap) :
    (Instr.sliceBounds b len cap (lo.map a.eval) (hi.map a.eval) none).run P w = .ok ((l.getD 0).toNat, (hh.getD len).toNat, cap) w := by
  rcases optInt_spec hI hl with ⟨rfl, rfl⟩ | ⟨y, k, m, rfl, rfl, e1⟩ <;> rcases optInt_spec hI hhi with ⟨rfl, rfl⟩ | ⟨y2, k2, m2, rfl, rfl, e2⟩ <;> simp only [Option.getD_some, Option.getD_none] at h1 h2 h3 ⊢
  · simp [Instr.sliceBounds]
  · cases b <;> simp [Instr.sliceBounds, e2, run_bound h2 (show m2 ≤ (cap : Int) by omega)]
  · cases b <;> simp [Instr.sliceBounds, e1, run_bound h1 h2]
  · have h5 : m ≤ (m2.toNat : Int) := by omega
    cases b <;> simp [Instr.sliceBounds, e1, e2, run_bound (show 0 ≤ m2 by omega) (show m2 ≤ (cap : Int) by omega), run_bound h1 h5]

theorem s_slice (hI : Inv P w0 X0 n L a w G) (hd : o.dst = some d) {T : TypeId} {x : Operand} {lo hi mx : Option Operand} (ho : o.op = .slice T x lo hi mx) (hop : aOp P n L wants o h = some r) (hob : ∀ p ∈ r.obs, p) :
    Does P w0 X0 n L o a w d r := by
  simp only [aOp, hd, ho] at hop
  split at hop
  · rename_i hlt
    have hlt' : d < n := lt_of_blt hlt
    cases mx with
    | some m => cases hop
    | none =>
      simp only at hop
      split at hop
      · rename_i s l hh hx hl hhi
        have hu : a.eval x = .string s := evV_rel hI hx
        split at hop
        · rename_i hT
          obtain ⟨h1, h2, h3⟩ := fin_obs hop hob (0 ≤ l.getD 0 ∧ l.getD 0 ≤ hh.getD s.size ∧ hh.getD s.size ≤ s.size) (by simp)
          have hT' : P.underlying T = some .string := by
            unfold isStrP at hT; split at hT
            · assumption
            · cases hT
          refine does_val hd (v := .string (s.extract (l.getD 0).toNat (hh.getD s.size).toNat)) (w' := w) ?_ (sr_fin hI hlt' hop hob rfl)
          simp [execOp, ho, hu, Instr.sliceAt, Instr.slice, run_und hT', run_bounds hI hl hhi false s.size s.size h1 h2 h3 (Nat.le_refl _)]
        · cases hop
      · rename_i xs l hh hx hl hhi
        obtain ⟨A, len, cap, hu, hlen, hcap, hr⟩ := evV_rel hI hx
        split at hop
        · rename_i e he
          split at hop
          · rename_i s hs
            cases hop
            obtain ⟨h1, h2, h3, h4⟩ := hob _ (List.mem_singleton.2 rfl)
            subst hlen
            have hT := elemP_spec he
            have hb := run_bounds (P := P) (w := w) hI hl hhi true xs.length cap h1 h2 h3 hcap
            have hlt1 : (l.getD 0).toNat ≤ (hh.getD xs.length).toNat := by omega
            have hlt2 : (hh.getD xs.length).toNat ≤ xs.length := by omega
            refine does_val hd (v := .slice (if cap = (l.getD 0).toNat then A else A.map (·.add ((l.getD 0).toNat * s))) ((hh.getD xs.length).toNat - (l.getD 0).toNat) (cap - (l.getD 0).toNat)) (w' := w) ?_
              (hI.setT0 (sv := .v (.sl ((xs.take (hh.getD xs.length).toNat).drop (l.getD 0).toNat))) hlt' ⟨_, _, _, rfl, by rw [List.length_drop, List.length_take]; omega, by omega, ?_⟩)
            · simp [execOp, ho, hu, Instr.sliceAt, Instr.slice, run_und hT, hb, run_sizeOf hs]
            · by_cases hz : ((xs.take (hh.getD xs.length).toNat).drop (l.getD 0).toNat) = []
              · exact .inl hz
              · refine .inr ?_
                rcases hr with hr | ⟨b, off, sz, hA, hr⟩
                · subst hr; simp at hz
                · have hne : 0 < (hh.getD xs.length).toNat - (l.getD 0).toNat := by
                    have : 0 < ((xs.take (hh.getD xs.length).toNat).drop (l.getD 0).toNat).length := List.length_pos_iff.2 hz
                    rw [List.length_drop, List.length_take] at this; omega
                  have hsz : sz = s := by
                    have h0 : 0 < xs.length := by omega
                    have g0 : xs[0]? = some xs[0] := by simp [h0]
                    have := (hr.get 0 g0).1
                    rw [← this]; exact h4 _ (by simp)
                  subst hsz
                  subst hA
                  refine ⟨b, off + (l.getD 0).toNat * sz, sz, ?_, (hr.take _).drop _⟩
                  rw [if_neg (by omega)]
                  simp [add_lit]
          · cases hop
        · cases hop
      · cases hop
  · cases hop
end Go.Av

/- Stores. -/
namespace Go.Av
open Go.RowKit
variable {P : Program} {w0 : World} {X0 : Gh} {n : Nat} {L : Look} {a : Act} {w w' : World} {G : Gho} {o : Oper} {K : Act → World → Prop} {Q : Exit → Act → World → Prop}
  {wants np : Nat → Bool} {h : Hint} {r : Res} {d : Nat}

theorem leaf_one {X : Gh} {c : AV} {u : Value} (h : Rel X w c u) (hl : c.leaf = true) : u.oneCell' = true := by
  cases c with
  | int k m => rw [show u = _ from h]; rfl
  | bool b => rw [show u = _ from h]; rfl
  | str s => rw [show u = _ from h]; rfl
  | agg cs => cases hl
  | tup cs => cases hl
  | sl xs => obtain ⟨A, len, cap, e, _⟩ := h; rw [e]; rfl
  | vptr cs => obtain ⟨b, f, e, _⟩ := h; rw [e]; rfl
  | func f cs => obtain ⟨us, e, _⟩ := h; rw [e]; rfl
  | undef => cases hl

theorem leaf_all {X : Gh} : ∀ {cs : List AV} {us : List Value}, RelL X w cs us → cs.all AV.leaf = true → ∀ v ∈ us, v.oneCell' = true
  | [], us, h, _, v, hv => by rw [show us = [] from h] at hv; cases hv
  | c :: cs, us, ⟨u, r, e, h1, h2⟩, hl, v, hv => by
    subst e
    simp only [List.all_cons, Bool.and_eq_true] at hl
    rcases List.mem_cons.1 hv with rfl | hv
    · exact leaf_one h1 hl.1
    · exact leaf_all h2 hl.2 v hv

theorem Inv.storeBox (hI : Inv P w0 X0 n L a w G) {k : Nat} {cs : List AV} {own0 : OwnL} (hb : L.b k = some (cs, own0)) {new : List AV} {vs : List Value} {off : Nat} (hrel : RelL G.X w new vs)
    (hfit : off + new.length ≤ cs.length) (hone : ∀ v ∈ vs, v.oneCell' = true) (os : OwnL) (oq : Nat → Option Nat)
    (ho : ∀ j t, (j, t) ∈ os → ∃ c, vs[j]? = some c ∧ OwnOk P G.X w w0.heap.size (oq j) t c)
    (hd1 : ∀ j t i t' b, (j, t) ∈ os → (i, t') ∈ os → oq j = some b → oq i = some b → j = i)
    (hd2 : ∀ j t q b, (j, t) ∈ os → L.has q → oq j = some b → G.blk q ≠ some b) :
    ∃ w', (storeCells ⟨G.bx k, off, none⟩ vs).run P w = .ok () w' ∧ SR P w0 X0 n (L.upd (.b k (setAll cs off new, (own0.filter fun p => !inRange off new.length p) ++ os.map fun p => (off + p.1, p.2)))) a w' := by
  obtain ⟨h1, hX, us, e, hheap, hr⟩ := hI.bo k cs own0 hb
  have hl := hrel.length
  have hl2 := hr.length
  have hl3 : us.size = cs.length := by rw [← hl2]; simp
  have hst := run_storeCells_at P (G.bx k) off e vs 0 us w hheap (by omega) hone
  have hset : (us.toList.take (off + 0) ++ vs ++ us.toList.drop (off + 0 + vs.length)) = setAll us.toList off vs := by
    rw [setAll_eq _ _ _ (by simp; omega)]; simp
  rw [hset] at hst
  refine ⟨_, hst, ?_⟩
  have hW : Wrote w (w.setRow (G.bx k) (setAll us.toList off vs).toArray) (G.bx k) := Wrote.setRow _ _ _
  have hE : Ext G.X w G.X (w.setRow (G.bx k) (setAll us.toList off vs).toArray) := hW.ext hX
  have hheap' := setRow_heap w (G.bx k) us (setAll us.toList off vs).toArray e (0, 0) hheap
  have hhasbox : L.has (.box k) := ⟨_, hb⟩
  have notbx : ∀ q, L.has q → q ≠ .box k → G.blk q ≠ some (G.bx k) := fun q hq hne e => hne (hI.dist q (.box k) (G.bx k) hq hhasbox e rfl)
  -- which of them a place is
  have hmem : ∀ j t, (j, t) ∈ ((own0.filter fun p => !inRange off new.length p) ++ os.map fun p => (off + p.1, p.2)) →
      (((j, t) ∈ own0 ∧ ¬ (off ≤ j ∧ j < off + new.length)) ∨ (∃ i, (i, t) ∈ os ∧ j = off + i ∧ i < new.length)) := by
    intro j t hj
    rcases List.mem_append.1 hj with hj | hj
    · obtain ⟨h3, h4⟩ := List.mem_filter.1 hj
      refine .inl ⟨h3, ?_⟩
      rintro ⟨h5, h6⟩
      have : inRange off new.length (j, t) = true := by
        simp only [inRange, Bool.and_eq_true, Nat.ble_eq, Nat.blt]; constructor <;> omega
      simp [this] at h4
    · obtain ⟨⟨i, t'⟩, h3, h4⟩ := List.mem_map.1 hj
      cases h4
      obtain ⟨c, hc, _⟩ := ho i t' h3
      exact .inr ⟨i, h3, rfl, by have := (List.getElem?_eq_some_iff.1 hc).1; omega⟩
  let od : Nat → Option Nat := fun j => if off ≤ j ∧ j < off + new.length then oq (j - off) else G.ow (.b k j)
  refine ⟨_, hI.setBox hb hW hheap' ?_ od ?_ ?_ ?_⟩
  · have := RelL.setAll off hrel hr
    simpa using RelL.mono hE _ _ this
  · intro j t hj
    rcases hmem j t hj with ⟨h3, h4⟩ | ⟨i, h3, rfl, h4⟩
    · obtain ⟨c, hc, hok⟩ := hI.ob k cs own0 j t hb h3
      rw [cell_row hheap] at hc
      refine ⟨c, ?_, ?_⟩
      · simp only [List.getElem?_toArray]
        rw [setAll_eq _ _ _ (by simp; omega)]
        simp only [not_and, Nat.not_lt] at h4
        by_cases h5 : j < off
        · rw [List.append_assoc, List.getElem?_append_left (by rw [List.length_take]; simp; omega), List.getElem?_take, if_pos h5]; simpa using hc
        · have h6 := h4 (by omega)
          rw [List.getElem?_append_right (by rw [List.length_append, List.length_take]; simp; omega), List.getElem?_drop, List.length_append, List.length_take]
          have : off + vs.length + (j - (min off us.toList.length + vs.length)) = j := by
            have : min off us.toList.length = off := Nat.min_eq_left (by simp; omega)
            rw [this]; omega
          rw [this]; simpa using hc
      · simp only [od, if_neg h4]
        exact hok.wrote hW (fun e => notbx (.own (.b k j)) ⟨cs, own0, t, hb, h3⟩ (by simp) e)
    · obtain ⟨c, hc, hok⟩ := ho i t h3
      have hi : i < vs.length := (List.getElem?_eq_some_iff.1 hc).1
      refine ⟨c, ?_, ?_⟩
      · simp only [List.getElem?_toArray]
        rw [setAll_eq _ _ _ (by simp; omega), List.append_assoc, List.getElem?_append_right (by rw [List.length_take]; simp; omega), List.length_take]
        have : off + i - min off us.toList.length = i := by
          have : min off us.toList.length = off := Nat.min_eq_left (by simp; omega)
          omega
        rw [this, List.getElem?_append_left hi]; exact hc
      · have : off ≤ off + i ∧ off + i < off + new.length := by omega
        simp only [od, if_pos this, Nat.add_sub_cancel_left]
        exact hok.wrote hW (fun e => hd2 i t (.box k) _ h3 hhasbox e rfl)
  · intro j t j' t' b hj hj' e1 e2
    rcases hmem j t hj with ⟨h3, h4⟩ | ⟨i, h3, rfl, h4⟩ <;> rcases hmem j' t' hj' with ⟨h3', h4'⟩ | ⟨i', h3', rfl, h4'⟩
    · simp only [od, if_neg h4, if_neg h4'] at e1 e2
      have := hI.dist (.own (.b k j)) (.own (.b k j')) b ⟨cs, own0, t, hb, h3⟩ ⟨cs, own0, t', hb, h3'⟩ e1 e2
      simpa using this
    · have h5 : off ≤ off + i' ∧ off + i' < off + new.length := by omega
      simp only [od, if_neg h4, if_pos h5, Nat.add_sub_cancel_left] at e1 e2
      exact absurd e1 (hd2 i' t' (.own (.b k j)) b h3' ⟨cs, own0, t, hb, h3⟩ e2)
    · have h5 : off ≤ off + i ∧ off + i < off + new.length := by omega
      simp only [od, if_neg h4', if_pos h5, Nat.add_sub_cancel_left] at e1 e2
      exact absurd e2 (hd2 i t (.own (.b k j')) b h3 ⟨cs, own0, t', hb, h3'⟩ e1)
    · have h5 : off ≤ off + i ∧ off + i < off + new.length := by omega
      have h5' : off ≤ off + i' ∧ off + i' < off + new.length := by omega
      simp only [od, if_pos h5, if_pos h5', Nat.add_sub_cancel_left] at e1 e2
      have := hd1 i t i' t' b h3 h3' e1 e2
      omega
  · intro j t q b hj hq hne e1
    rcases hmem j t hj with ⟨h3, h4⟩ | ⟨i, h3, rfl, h4⟩
    · simp only [od, if_neg h4] at e1
      intro e2
      have := hI.dist (.own (.b k j)) q b ⟨cs, own0, t, hb, h3⟩ hq e1 e2
      exact hne j this.symm
    · have h5 : off ≤ off + i ∧ off + i < off + new.length := by omega
      simp only [od, if_pos h5, Nat.add_sub_cancel_left] at e1
      exact hd2 i t q b h3 hq e1

theorem modify_flatten (f : List AV → List AV) : ∀ (rows : List (List AV)) (i : Nat) (c : List AV) (sz off : Nat) (new : List AV), (∀ c ∈ rows, c.length = sz) → rows[i]? = some c → off + new.length ≤ sz →
    (rows.modify i fun c => setAll c off new).flatten = setAll rows.flatten (i * sz + off) new
  | [], i, c, sz, off, new, _, h, _ => by simp at h
  | r :: rows, 0, c, sz, off, new, hl, h, hf => by
    simp at h; subst h
    have hr : r.length = sz := hl r (by simp)
    rw [show List.modify (r :: rows) 0 (fun c => setAll c off new) = setAll r off new :: rows from rfl]
    rw [List.flatten_cons, List.flatten_cons, setAll_eq _ _ _ (by omega), setAll_eq _ _ _ (by simp; omega)]
    simp only [Nat.zero_mul, Nat.zero_add]
    rw [List.take_append_of_le_length (by omega), List.drop_append_of_le_length (by omega)]
    simp [List.append_assoc]
  | r :: rows, i + 1, c, sz, off, new, hl, h, hf => by
    have hr : r.length = sz := hl r (by simp)
    have ih := modify_flatten f rows i c sz off new (fun c h => hl c (by simp [h])) (by simpa using h) hf
    rw [show List.modify (r :: rows) (i + 1) (fun c => setAll c off new) = r :: rows.modify i (fun c => setAll c off new) from rfl]
    rw [List.flatten_cons, List.flatten_cons, ih]
    have hlen : (rows.flatten).length = rows.length * sz := by
      clear ih h
      induction rows with
      | nil => simp
      | cons x xs ih2 => simp only [List.flatten_cons, List.length_append, List.length_cons]; rw [hl x (by simp), ih2 (fun c hc => by
          rcases List.mem_cons.1 hc with rfl | hc
          · exact hl _ (by simp)
          · exact hl c (by simp [hc]))]; rw [Nat.add_mul]; omega
    have hi : i < rows.length := (List.getElem?_eq_some_iff.1 (by simpa using h)).1
    have hb : i * sz + sz ≤ rows.length * sz := by
      have := Nat.mul_le_mul_right sz (show i + 1 ≤ rows.length from hi)
      rwa [Nat.add_mul, Nat.one_mul] at this
    have e : (i + 1) * sz + off = r.length + (i * sz + off) := by rw [Nat.add_mul, hr]; omega
    rw [e, setAll_eq _ _ _ (by rw [hlen]; omega), setAll_eq _ _ _ (by rw [List.length_append, hlen]; omega)]
    rw [List.take_length_add_append, show r.length + (i * sz + off) + new.length = r.length + (i * sz + off + new.length) by omega, List.drop_length_add_append]
    simp [List.append_assoc]
end Go.Av

/- Stores and appends, as the evaluator says. -/
namespace Go.Av
open Go.RowKit
variable {P : Program} {w0 : World} {X0 : Gh} {n : Nat} {L : Look} {a : Act} {w w' : World} {G : Gho} {o : Oper} {K : Act → World → Prop} {Q : Exit → Act → World → Prop}
  {wants np : Nat → Bool} {h : Hint} {r : Res} {d : Nat}

theorem run_storeAt {T : TypeId} {s : Nat} {A : Addr} {v : Value} (hs : sizeP P T = some s) (hv : v.cells.size = s) : (Instr.storeAt T (.pointer (some A)) v).run P w = (storeCells A v.cells.toList).run P w := by
  simp [Instr.storeAt, Instr.sureAddr, storeVar, run_sizeOf hs, hv]

theorem s_store (hI : Inv P w0 X0 n L a w G) {ups : List Upd} {obs : List Prop} (hop : aStore P L o = some (ups, obs)) (hob : ∀ p ∈ obs, p) :
    ∀ Q, o.wp P a w (fun a' w' => SR P w0 X0 n (L.upds ups) a' w') Q := by
  intro Q
  unfold aStore at hop
  split at hop
  · rename_i T x y hd ho
    split at hop
    · -- into a box
      rename_i s k off own1 av own pre hs hx hg
      have hu : a.eval x = .pointer (some ⟨G.bx k, off, none⟩) := ev_rel hI hx
      split at hop
      · rename_i cs own0 hb
        split at hop
        · rename_i hc
          simp only [Bool.and_eq_true, Nat.ble_eq] at hc
          obtain ⟨⟨⟨h1, h2⟩, h3⟩, h4⟩ := hc
          have h3' := Nat.eq_of_beq_eq_true h3
          cases hop
          have finish : ∀ w' u', (storeCells ⟨G.bx k, off, none⟩ (a.eval y).cells.toList).run P w = .ok () w' → (a.eval y).cells.size = s → u' = (a.put none undef) → SR P w0 X0 n (L.upds (pre ++ [.b k (setAll cs off av.cells, (own0.filter fun p => !inRange off s p) ++ own.map fun p => (off + p.1, p.2))])) a w' →
              o.wp P a w (fun a' w' => SR P w0 X0 n (L.upds (pre ++ [.b k (setAll cs off av.cells, (own0.filter fun p => !inRange off s p) ++ own.map fun p => (off + p.1, p.2))])) a' w') Q := by
            intro w' u' hrun hsz _ hSR
            unfold Oper.wp
            have : (execOp a.eval o).run P w = .ok .skip w' := by
              simp only [execOp, ho, hu, Sem.run_bind, run_storeAt hs hsz, hrun, Result.andThen_ok, Sem.run_pure]
            rw [this, Oper.upon_skip, hd]
            exact hSR
          unfold grab at hg
          split at hg
          · rename_i t
            split at hg
            · rename_i sv' own' ht
              have hrel : Rel G.X w av (a.eval (.tmp t)) := by
                have := (hI.tm t sv' own' ht).2
                split at hg <;> cases hg <;> exact this
              have hcells := rel_solid hrel h1
              have hsz : (a.eval (.tmp t)).cells.size = s := by rw [← h3', ← hcells.length]; simp
              have hflat := flat_cells (rel_notuple hrel h1)
              split at hg
              · rename_i p0 ps _
                cases hg
                have hcl := hI.clearT ht
                obtain ⟨w', hrun, hSR⟩ := hcl.storeBox (P := P) (k := k) (off := off) hb hcells (by omega) (leaf_all hcells h2) (p0 :: ps) (fun j => G.ow (.t t j)) (by
                    intro j e hj
                    obtain ⟨c, hc, hok⟩ := hI.ot t _ _ j e ht hj
                    have hfl : Value.flat (a.tmps.getD t undef) = (a.eval (.tmp t)).cells.toList := hflat
                    rw [hfl] at hc
                    exact ⟨c, hc, hok⟩) (by
                    intro j e i e' b hj hi e1 e2
                    have := hI.dist (.own (.t t j)) (.own (.t t i)) b ⟨_, _, e, ht, hj⟩ ⟨_, _, e', ht, hi⟩ e1 e2
                    simpa using this) (by
                    intro j e q b hj hq e1 e2
                    have hq' : L.has q ∧ ∀ k, q ≠ .own (.t t k) := by
                      cases q with
                      | box k' => exact ⟨hq, by simp⟩
                      | row k' => exact ⟨hq, by simp⟩
                      | own p =>
                        cases p with
                        | b k' j' => exact ⟨hq, by simp⟩
                        | t k' j' =>
                          obtain ⟨z1, z2, z3, hz, hz'⟩ := hq
                          by_cases ek : k' = t
                          · subst ek
                            simp only [Look.upd, if_pos] at hz
                            cases hz
                            simp at hz'
                          · simp only [Look.upd, if_neg ek] at hz; exact ⟨⟨z1, z2, z3, hz, hz'⟩, by simpa using ek⟩
                    have := hI.dist (.own (.t t j)) q b ⟨_, _, e, ht, hj⟩ hq'.1 e1 e2
                    exact hq'.2 j this.symm)
                rw [h3'] at hSR
                exact finish w' _ hrun hsz rfl (by simpa [Look.upds] using hSR)
              · cases hg
                obtain ⟨w', hrun, hSR⟩ := hI.storeBox (P := P) (k := k) (off := off) hb hcells (by omega) (leaf_all hcells h2) [] (fun _ => none) (by simp) (by simp) (by simp)
                rw [h3'] at hSR
                exact finish w' _ hrun hsz rfl (by simpa [Look.upds] using hSR)
            · cases hg
          · split at hg
            · rename_i sv' own' ht
              cases hg
              have hrel : Rel G.X w av (a.eval y) := ev_rel hI ht
              have hcells := rel_solid hrel h1
              have hsz : (a.eval y).cells.size = s := by rw [← h3', ← hcells.length]; simp
              obtain ⟨w', hrun, hSR⟩ := hI.storeBox (P := P) (k := k) (off := off) hb hcells (by omega) (leaf_all hcells h2) [] (fun _ => none) (by simp) (by simp) (by simp)
              rw [h3'] at hSR
              exact finish w' _ hrun hsz rfl (by simpa [Look.upds] using hSR)
            · cases hg
        · cases hop
      · cases hop
    · -- into an array
      rename_i s k i off own1 av own pre hs hx hg
      split at hop
      · rename_i sz rows hr
        split at hop
        · rename_i hc
          simp only [Bool.and_eq_true, Nat.ble_eq] at hc
          obtain ⟨⟨⟨h1, h2⟩, h3⟩, h4⟩ := hc
          have h3' := Nat.eq_of_beq_eq_true h3
          cases hop
          have hi : i < rows.length := hob _ (List.mem_singleton.2 rfl)
          have hu : a.eval x = .pointer (some ⟨G.rx k, i * sz + off, none⟩) := ev_rel hI hx sz rows hr
          have hrel : Rel G.X w av (a.eval y) := by
            unfold grab at hg
            split at hg
            · split at hg
              · rename_i sv' own' ht
                have := (hI.tm _ sv' own' ht).2
                split at hg <;> cases hg <;> exact this
              · cases hg
            · split at hg
              · rename_i sv' own' ht
                cases hg
                exact ev_rel hI ht
              · cases hg
          have hcells := rel_solid hrel h1
          have hl := hcells.length
          have hsz : (a.eval y).cells.size = s := by rw [← h3', ← hl]; simp
          obtain ⟨hb1, hX, hlens, us, e, hheap, hrl⟩ := hI.ro k sz rows hr
          have hl2 := hrl.length
          have hlen : (rows.flatten).length = rows.length * sz := by
            clear hr hi hrl hl2 hob
            induction rows with
            | nil => simp
            | cons x xs ih2 => simp only [List.flatten_cons, List.length_append, List.length_cons]; rw [hlens x (by simp), ih2 (fun c hc => hlens c (by simp [hc]))]; rw [Nat.add_mul]; omega
          have hb : i * sz + sz ≤ rows.length * sz := by
            have := Nat.mul_le_mul_right sz (show i + 1 ≤ rows.length from hi)
            rwa [Nat.add_mul, Nat.one_mul] at this
          have hus : us.size = rows.length * sz := by rw [← hlen, ← hl2]; simp
          have hst := run_storeCells_at P (G.rx k) (i * sz + off) e (a.eval y).cells.toList 0 us w hheap (by rw [hl]; omega) (leaf_all hcells h2)
          have hset : (us.toList.take (i * sz + off + 0) ++ (a.eval y).cells.toList ++ us.toList.drop (i * sz + off + 0 + (a.eval y).cells.toList.length)) = setAll us.toList (i * sz + off) (a.eval y).cells.toList := by
            rw [setAll_eq _ _ _ (by rw [hl]; simp; omega)]; simp
          rw [hset] at hst
          have hW : Wrote w (w.setRow (G.rx k) (setAll us.toList (i * sz + off) (a.eval y).cells.toList).toArray) (G.rx k) := Wrote.setRow _ _ _
          have hE := hW.ext hX
          have hheap' := setRow_heap w (G.rx k) us (setAll us.toList (i * sz + off) (a.eval y).cells.toList).toArray e (0, 0) hheap
          have gi : rows[i]? = some rows[i] := by simp [hi]
          have hfl := modify_flatten id rows i rows[i] sz off av.cells hlens gi (by omega)
          have hSR := hI.setRow (rows' := rows.modify i fun c => setAll c off av.cells) hr (by simp) (by
              intro c hc
              rw [List.mem_iff_getElem?] at hc
              obtain ⟨j, hj⟩ := hc
              rw [List.getElem?_modify] at hj
              cases hc0 : rows[j]? with
              | none => rw [hc0] at hj; cases hj
              | some c0 =>
                rw [hc0] at hj
                have := hlens c0 (List.mem_of_getElem? hc0)
                by_cases eij : i = j
                · simp [eij] at hj; rw [← hj, setAll_length]; exact this
                · simp [eij] at hj; rw [← hj]; exact this) hW hheap' (by
              rw [hfl]
              have := RelL.setAll (i * sz + off) hcells hrl
              simpa using RelL.mono hE _ _ this)
          unfold Oper.wp
          have : (execOp a.eval o).run P w = .ok .skip (w.setRow (G.rx k) (setAll us.toList (i * sz + off) (a.eval y).cells.toList).toArray) := by
            simp only [execOp, ho, hu, Sem.run_bind, run_storeAt hs hsz, hst, Result.andThen_ok, Sem.run_pure]
          rw [this, Oper.upon_skip, hd]
          exact ⟨G, hSR⟩
        · cases hop
      · cases hop
    · cases hop
  · cases hop
end Go.Av

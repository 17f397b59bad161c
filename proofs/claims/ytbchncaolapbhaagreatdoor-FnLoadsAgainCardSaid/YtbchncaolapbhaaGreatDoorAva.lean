/- Values of calls, told abstractly, with what is held: part 1. -/
import Derived.Below
import Derived.Orders
import Derived.Laws.OwnMore
import Derived.Lib.LaidTab
import Derived.Lib.ItoaNum
import Derived.WalkLawsBesides
import Derived.Laws.IdiomCopy
set_option linter.unusedVariables false
set_option linter.unusedSimpArgs false
namespace Go.Bv
open Go.RowKit
inductive AV where
  | int (k : IntKind) (n : Int)
  | bool (b : Bool)
  | str (s : ByteArray)
  | agg (cs : List AV)
  | tup (vs : List AV)
  | sl (xs : List (List AV))
  | vptr (cs : List AV)
  | func (f : Nat) (caps : List AV)
  | mp (ks vs : List AV)
  | slx
  | raw (v : Value)
  | undef
def AV.cells : AV → List AV
  | .agg cs => cs
  | v => [v]
abbrev Gh := Nat → Option Nat
def okc (X : Gh) (b o : Nat) : Prop := match X b with | none => True | some n => o < n
mutual
def Rel (X : Gh) (w : World) : AV → Value → Prop
  | .int k n, v => v = .int k n
  | .bool b, v => v = .bool b
  | .str s, v => v = .string s
  | .agg cs, v => ∃ us : List Value, v = .agg us.toArray ∧ RelL X w cs us
  | .tup vs, v => ∃ us : List Value, v = .tuple us.toArray ∧ RelL X w vs us
  | .sl xs, v => ∃ A len cap, v = .slice A len cap ∧ len = xs.length ∧ len ≤ cap ∧ (xs = [] ∨ ∃ b o sz, A = some ⟨b, o, none⟩ ∧ RelE X w sz b o xs)
  | .vptr cs, v => ∃ b o, v = .pointer (some ⟨b, o, none⟩) ∧ RelC X w b o cs
  | .func f caps, v => ∃ us : List Value, v = .func (.func f) #[] us.toArray ∧ RelL X w caps us
  | .mp ks vs, v => ∃ r es k, v = .map (some r) ∧ w.heap[r]? = some (.map es k) ∧ X r = none ∧ RelL X w ks (es.toList.map MapEntry.key) ∧ RelL X w vs (es.toList.map MapEntry.val)
  | .slx, v => ∃ A len cap, v = .slice A len cap
  | .raw u, v => v = u ∧ ∃ A len cap, v = .slice A len cap
  | .undef, _ => True
def RelL (X : Gh) (w : World) : List AV → List Value → Prop
  | [], us => us = []
  | c :: cs, us => ∃ u r, us = u :: r ∧ Rel X w c u ∧ RelL X w cs r
def RelC (X : Gh) (w : World) (b o : Nat) : List AV → Prop
  | [] => True
  | c :: cs => (∃ u, w.cell? ⟨b, o, none⟩ = some u ∧ okc X b o ∧ Rel X w c u) ∧ RelC X w b (o + 1) cs
def RelE (X : Gh) (w : World) (sz b o : Nat) : List (List AV) → Prop
  | [] => True
  | cs :: xs => cs.length = sz ∧ RelC X w b o cs ∧ RelE X w sz b (o + sz) xs
end
structure Ext (X : Gh) (w : World) (X' : Gh) (w' : World) : Prop where
  c : ∀ b o u, w.cell? ⟨b, o, none⟩ = some u → okc X b o → w'.cell? ⟨b, o, none⟩ = some u ∧ okc X' b o
  m : ∀ r es k, w.heap[r]? = some (.map es k) → X r = none → w'.heap[r]? = some (.map es k) ∧ X' r = none
theorem Ext.refl (X w) : Ext X w X w := ⟨fun _ _ _ h k => ⟨h, k⟩, fun _ _ _ h k => ⟨h, k⟩⟩
theorem Ext.trans {X w X' w' X'' w''} (h : Ext X w X' w') (h' : Ext X' w' X'' w'') : Ext X w X'' w'' :=
  ⟨fun b o u hc hk => let ⟨c, k⟩ := h.c b o u hc hk; h'.c b o u c k, fun r es q hc hk => let ⟨c, k⟩ := h.m r es q hc hk; h'.m r es q c k⟩
mutual
theorem Rel.mono {X X' : Gh} {w w' : World} (h : Ext X w X' w') : ∀ (v : AV) (u : Value), Rel X w v u → Rel X' w' v u
  | .int _ _, _, r => r
  | .bool _, _, r => r
  | .str _, _, r => r
  | .agg cs, _, ⟨us, e, r⟩ => ⟨us, e, RelL.mono h cs us r⟩
  | .tup cs, _, ⟨us, e, r⟩ => ⟨us, e, RelL.mono h cs us r⟩
  | .sl xs, _, ⟨A, len, cap, e, hl, hc, r⟩ => ⟨A, len, cap, e, hl, hc, r.imp id fun ⟨b, o, sz, e, r⟩ => ⟨b, o, sz, e, RelE.mono h sz b o xs r⟩⟩
  | .vptr cs, _, ⟨b, o, e, r⟩ => ⟨b, o, e, RelC.mono h b o cs r⟩
  | .func _ cs, _, ⟨us, e, r⟩ => ⟨us, e, RelL.mono h cs us r⟩
  | .mp ks vs, _, ⟨r, es, k, e, h1, h2, a, b⟩ => ⟨r, es, k, e, (h.m r es k h1 h2).1, (h.m r es k h1 h2).2, RelL.mono h ks _ a, RelL.mono h vs _ b⟩
  | .slx, _, r => r
  | .raw _, _, r => r
  | .undef, _, _ => trivial
theorem RelL.mono {X X' : Gh} {w w' : World} (h : Ext X w X' w') : ∀ (cs : List AV) (us : List Value), RelL X w cs us → RelL X' w' cs us
  | [], _, r => r
  | c :: cs, _, ⟨u, r, e, a, b⟩ => ⟨u, r, e, Rel.mono h c u a, RelL.mono h cs r b⟩
theorem RelC.mono {X X' : Gh} {w w' : World} (h : Ext X w X' w') : ∀ (b o : Nat) (cs : List AV), RelC X w b o cs → RelC X' w' b o cs
  | _, _, [], r => r
  | b, o, c :: cs, ⟨⟨u, e, k, r⟩, q⟩ => ⟨⟨u, (h.c b o u e k).1, (h.c b o u e k).2, Rel.mono h c u r⟩, RelC.mono h b (o + 1) cs q⟩
theorem RelE.mono {X X' : Gh} {w w' : World} (h : Ext X w X' w') : ∀ (sz b o : Nat) (xs : List (List AV)), RelE X w sz b o xs → RelE X' w' sz b o xs
  | _, _, _, [], r => r
  | sz, b, o, cs :: xs, ⟨e, r, q⟩ => ⟨e, RelC.mono h b o cs r, RelE.mono h sz b (o + sz) xs q⟩
end
theorem RelL.length {X w} : ∀ {cs : List AV} {us : List Value}, RelL X w cs us → us.length = cs.length
  | [], _, r => by rw [show _ = [] from r]; rfl
  | c :: cs, _, ⟨u, r, e, _, b⟩ => by rw [e]; simp [RelL.length b]
theorem RelL.append {X w} : ∀ {cs ds : List AV} {us vs : List Value}, RelL X w cs us → RelL X w ds vs → RelL X w (cs ++ ds) (us ++ vs)
  | [], _, _, _, r, q => by rw [show _ = [] from r]; exact q
  | c :: cs, _, _, _, ⟨u, r, e, a, b⟩, q => by rw [e]; exact ⟨u, _, rfl, a, RelL.append b q⟩
theorem RelL.drop {X w} : ∀ (n : Nat) {cs : List AV} {us : List Value}, RelL X w cs us → RelL X w (cs.drop n) (us.drop n)
  | 0, _, _, r => r
  | n + 1, [], _, r => by rw [show _ = [] from r]; exact rfl
  | n + 1, c :: cs, _, ⟨u, r, e, _, b⟩ => by rw [e]; exact RelL.drop n b
theorem RelL.take {X w} : ∀ (n : Nat) {cs : List AV} {us : List Value}, RelL X w cs us → RelL X w (cs.take n) (us.take n)
  | 0, _, _, _ => rfl
  | n + 1, [], _, r => by rw [show _ = [] from r]; exact rfl
  | n + 1, c :: cs, _, ⟨u, r, e, a, b⟩ => by rw [e]; exact ⟨u, _, rfl, a, RelL.take n b⟩
theorem RelL.get {X w} : ∀ {cs : List AV} {us : List Value} (i : Nat) {c : AV}, RelL X w cs us → cs[i]? = some c → ∃ u, us[i]? = some u ∧ Rel X w c u
  | [], _, _, _, _, h => by simp at h
  | c :: cs, _, 0, _, ⟨u, r, e, a, b⟩, h => by rw [e]; simp at h; exact ⟨u, rfl, h ▸ a⟩
  | c :: cs, _, i + 1, _, ⟨u, r, e, a, b⟩, h => by rw [e]; exact RelL.get i b (by simpa using h)
theorem RelL.set {X w} : ∀ {cs : List AV} {us : List Value} (i : Nat) {c : AV} {u : Value}, RelL X w cs us → Rel X w c u → RelL X w (cs.set i c) (us.set i u)
  | [], _, _, _, _, r, _ => by rw [show _ = [] from r]; exact rfl
  | c :: cs, _, 0, _, _, ⟨u, r, e, a, b⟩, h => by rw [e]; exact ⟨_, _, rfl, h, b⟩
  | c :: cs, _, i + 1, _, _, ⟨u, r, e, a, b⟩, h => by rw [e]; exact ⟨u, _, rfl, a, RelL.set i b h⟩
theorem Rel.cells {X w} {v : AV} {u : Value} (h : Rel X w v u) (hv : v ≠ .undef) (ht : ∀ vs, v ≠ .tup vs) : RelL X w v.cells u.cells.toList := by
  cases v with
  | agg cs => obtain ⟨us, rfl, r⟩ := h; exact r
  | int k n => rw [show u = _ from h]; exact ⟨_, [], rfl, rfl, rfl⟩
  | bool b => rw [show u = _ from h]; exact ⟨_, [], rfl, rfl, rfl⟩
  | str s => rw [show u = _ from h]; exact ⟨_, [], rfl, rfl, rfl⟩
  | tup vs => exact absurd rfl (ht vs)
  | sl xs => obtain ⟨A, len, cap, rfl, r⟩ := h; exact ⟨_, [], rfl, ⟨A, len, cap, rfl, r⟩, rfl⟩
  | vptr cs => obtain ⟨b, o, rfl, r⟩ := h; exact ⟨_, [], rfl, ⟨b, o, rfl, r⟩, rfl⟩
  | func f cs => obtain ⟨us, rfl, r⟩ := h; exact ⟨_, [], rfl, ⟨us, rfl, r⟩, rfl⟩
  | mp ks vs => obtain ⟨r, es, k, rfl, h⟩ := h; exact ⟨_, [], rfl, ⟨r, es, k, rfl, h⟩, rfl⟩
  | slx => obtain ⟨A, len, cap, rfl⟩ := h; exact ⟨_, [], rfl, ⟨A, len, cap, rfl⟩, rfl⟩
  | raw q => obtain ⟨rfl, A, len, cap, rfl⟩ := h; exact ⟨_, [], rfl, ⟨rfl, A, len, cap, rfl⟩, rfl⟩
  | undef => exact absurd rfl hv
theorem RelC.get {X w} : ∀ {b o : Nat} {cs : List AV} (i : Nat) {c : AV}, RelC X w b o cs → cs[i]? = some c → ∃ u, w.cell? ⟨b, o + i, none⟩ = some u ∧ okc X b (o + i) ∧ Rel X w c u
  | _, _, [], _, _, _, h => by simp at h
  | b, o, c :: cs, 0, _, ⟨⟨u, e, k, a⟩, q⟩, h => by simp at h; exact ⟨u, e, k, h ▸ a⟩
  | b, o, c :: cs, i + 1, _, ⟨⟨u, e, k, a⟩, q⟩, h => by
    have := RelC.get (b := b) (o := o + 1) i q (by simpa using h)
    rwa [show o + 1 + i = o + (i + 1) by omega] at this
theorem RelC.drop {X w} : ∀ (n : Nat) {b o : Nat} {cs : List AV}, RelC X w b o cs → RelC X w b (o + n) (cs.drop n)
  | 0, _, _, _, r => r
  | n + 1, b, o, [], r => trivial
  | n + 1, b, o, c :: cs, ⟨_, q⟩ => by
    have := RelC.drop n q
    rw [show o + 1 + n = o + (n + 1) by omega] at this; exact this
theorem RelC.take {X w} : ∀ (n : Nat) {b o : Nat} {cs : List AV}, RelC X w b o cs → RelC X w b o (cs.take n)
  | 0, _, _, _, _ => trivial
  | n + 1, b, o, [], r => trivial
  | n + 1, b, o, c :: cs, ⟨a, q⟩ => ⟨a, RelC.take n q⟩
theorem RelE.get {X w} : ∀ {sz b o : Nat} {xs : List (List AV)} (i : Nat) {c : List AV}, RelE X w sz b o xs → xs[i]? = some c → c.length = sz ∧ RelC X w b (o + i * sz) c
  | _, _, _, [], _, _, _, h => by simp at h
  | sz, b, o, c :: cs, 0, _, ⟨e, k, a⟩, h => by simp at h; subst h; exact ⟨e, by simpa using k⟩
  | sz, b, o, c :: cs, i + 1, _, ⟨e, k, a⟩, h => by
    have := RelE.get (sz := sz) (b := b) (o := o + sz) i a (by simpa using h)
    rwa [show o + sz + i * sz = o + (i + 1) * sz by rw [Nat.add_mul]; omega] at this
theorem RelE.drop {X w} : ∀ (n : Nat) {sz b o : Nat} {xs : List (List AV)}, RelE X w sz b o xs → RelE X w sz b (o + n * sz) (xs.drop n)
  | 0, _, _, _, _, r => by simpa using r
  | n + 1, _, _, _, [], _ => trivial
  | n + 1, sz, b, o, c :: cs, ⟨_, _, q⟩ => by
    have := RelE.drop n q
    rw [show o + sz + n * sz = o + (n + 1) * sz by rw [Nat.add_mul]; omega] at this; exact this
theorem RelE.take {X w} : ∀ (n : Nat) {sz b o : Nat} {xs : List (List AV)}, RelE X w sz b o xs → RelE X w sz b o (xs.take n)
  | 0, _, _, _, _, _ => trivial
  | n + 1, _, _, _, [], _ => trivial
  | n + 1, sz, b, o, c :: cs, ⟨e, a, q⟩ => ⟨e, a, RelE.take n q⟩
theorem RelE.append {X w} : ∀ {sz b o : Nat} {xs ys : List (List AV)}, RelE X w sz b o xs → RelE X w sz b (o + xs.length * sz) ys → RelE X w sz b o (xs ++ ys)
  | _, _, _, [], _, _, q => by simpa using q
  | sz, b, o, c :: cs, ys, ⟨e, a, r⟩, q => ⟨e, a, RelE.append r (by
      have : o + (cs.length + 1) * sz = o + sz + cs.length * sz := by rw [Nat.add_mul]; omega
      simpa [this] using q)⟩
end Go.Bv

namespace Go.Bv
open Go.RowKit
inductive OP where
  | t (s j : Nat)
  | b (d j : Nat)
  | a (i j : Nat)
  deriving DecidableEq
inductive LP where
  | box (d : Nat)
  | ptr (d : Nat)
  | arg (i j : Nat)
  | own (p : OP)
  deriving DecidableEq
abbrev Path := List (Nat × Nat × Nat)
inductive OE where
  | app (e : TypeId)
  | ex (e : TypeId) (dp : Bool) (xs : List (List AV))
  | al (p : OP) (π : Path)
  | sb (p : OP) (π : Path) (lo sz n : Nat)
def OE.owner : OE → Bool
  | .app _ => true
  | .ex _ _ _ => true
  | _ => false
abbrev OwnL := List (Nat × OE)
inductive SV where
  | v (x : AV)
  | ptr (d off : Nat)
  | el (p : OP) (π : Path) (i sz off : Nat)
  | mp (d : Nat)
inductive BX where
  | cells (cs : List AV) (own : OwnL)
  | map (ks vs : List AV)
  | ref (q : Nat)
structure Look where
  t : Nat → Option (SV × OwnL)
  b : Nat → Option BX
  g : Nat → Option OwnL
inductive Ref where
  | t (s : Nat)
  | b (d : Nat)
  | bp (d : Nat)
  | a (i : Nat)
  | o (p : OP)
inductive Upd where
  | f (r : Ref)
  | t (s : Nat) (e : SV × OwnL)
  | b (d : Nat) (e : BX)
  | g (i : Nat) (e : OwnL)
def OP.same : OP → OP → Bool
  | .t s j, .t k i => Nat.beq s k && Nat.beq j i
  | .b s j, .b k i => Nat.beq s k && Nat.beq j i
  | .a s j, .a k i => Nat.beq s k && Nat.beq j i
  | _, _ => false
theorem OP.same_iff {p q : OP} : p.same q = true ↔ q = p := by
  have key : ∀ {a b c d : Nat}, (Nat.beq a b && Nat.beq c d) = true ↔ b = a ∧ d = c := fun {a b c d} => by
    rw [Bool.and_eq_true]
    exact ⟨fun ⟨h1, h2⟩ => ⟨(Nat.eq_of_beq_eq_true h1).symm, (Nat.eq_of_beq_eq_true h2).symm⟩, fun ⟨h1, h2⟩ => by subst h1; subst h2; exact ⟨Nat.beq_refl _, Nat.beq_refl _⟩⟩
  cases p <;> cases q <;> simp only [OP.same, OP.t.injEq, OP.b.injEq, OP.a.injEq, key, Bool.false_eq_true, reduceCtorEq]
def OP.inn : Ref → OP → Bool
  | .o q, p => OP.same q p
  | .t s, .t k _ => Nat.beq s k
  | .b s, .b k _ => Nat.beq s k
  | .bp s, .b k _ => Nat.beq s k
  | .a s, .a k _ => Nat.beq s k
  | _, _ => false
def pinB : OP → Path → Bool
  | .a _ _, [] => true
  | _, _ => false
def hdrR : Ref → Path → Bool
  | .o _, [] => true
  | _, _ => false
def OE.refs (r : Ref) : OE → Bool
  | .al p π => !pinB p π && !hdrR r π && p.inn r
  | .sb p π _ _ _ => !hdrR r π && p.inn r
  | _ => false
def refsL (r : Ref) : OwnL → Bool
  | [] => false
  | (_, x) :: l => x.refs r || refsL r l
def SV.refs (r : Ref) : SV → Bool
  | .v _ => false
  | .ptr d _ => match r with | .bp k => Nat.beq k d | _ => false
  | .el p π _ _ _ => !hdrR r π && p.inn r
  | .mp d => match r with | .bp k => Nat.beq k d | _ => false
def refsT (r : Ref) (e : SV × OwnL) : Bool := e.1.refs r || refsL r e.2
def refsB (r : Ref) : BX → Bool
  | .cells _ own => refsL r own
  | .map _ _ => false
  | .ref q => match r with | .bp k => Nat.beq k q | _ => false
def dropT (r : Ref) (e : SV × OwnL) : Option (SV × OwnL) := match refsT r e with | true => none | false => some e
def dropB (r : Ref) (e : BX) : Option BX := match refsB r e with | true => none | false => some e
def dropG (r : Ref) (e : OwnL) : Option OwnL := match refsL r e with | true => none | false => some e
def Look.upd (L : Look) : Upd → Look
  | .f r => { t := fun k => (L.t k).bind (dropT r), b := fun k => (L.b k).bind (dropB r), g := fun k => (L.g k).bind (dropG r) }
  | .t s e => { L with t := fun k => if k = s then some e else L.t k }
  | .b d e => { L with b := fun k => if k = d then some e else L.b k }
  | .g d e => { L with g := fun k => if k = d then some e else L.g k }
def Look.upds (L : Look) (us : List Upd) : Look := us.foldl Look.upd L
def isAggP (P : Program) (t : TypeId) : Option Bool := (P.underlying t).map fun | .struct _ | .array _ _ => true | _ => false
def sizeP (P : Program) (t : TypeId) : Option Nat := (P.info? t).map (·.size)
def bytesP (P : Program) (t : TypeId) : Option Nat := (P.info? t).map (·.bytes)
def elemP (P : Program) (t : TypeId) : Option TypeId := match P.underlying t with | some (.slice e) => some e | _ => none
def isStrP (P : Program) (t : TypeId) : Bool := match P.underlying t with | some .string => true | _ => false
def fieldP (P : Program) (t : TypeId) (f : Nat) : Option (Nat × TypeId) := match P.underlying t with | some (.struct fs) => (fs[f]?).map fun x => (x.offset, x.type) | _ => none
def intOfP (P : Program) (t : TypeId) : Option IntKind := match P.underlying t with | some (.int k) => some k | _ => none
def avConst : Value → Option AV
  | .int k n => some (.int k n)
  | .bool b => some (.bool b)
  | .string s => some (.str s)
  | .slice none 0 0 => some (.sl [])
  | .pointer none => some .undef
  | .nilFunc => some .undef
  | .map none => some .undef
  | .nilIface => some .undef
  | _ => none
def avConsts : List Value → Option (List AV)
  | [] => some []
  | v :: vs => match avConst v, avConsts vs with | some a, some as => some (a :: as) | _, _ => none
def zeroP (P : Program) (t : TypeId) : Option (List AV) := (P.info? t).bind fun i => i.zero.bind fun z => avConsts z.cells.toList
def slicesIn (P : Program) : Nat → Nat → TypeId → List (Nat × TypeId)
  | 0, _, _ => []
  | k + 1, off, t => match P.underlying t with
    | some (.slice e) => [(off, e)]
    | some (.struct fs) => fs.toList.flatMap fun f => slicesIn P k (off + f.offset) f.type
    | _ => []
def AV.flat : AV → List AV
  | .tup vs => vs.flatMap AV.cells
  | v => v.cells
def Value.flat : Value → List Value
  | .tuple vs => vs.toList.flatMap fun v => v.cells.toList
  | v => v.cells.toList
def ofCells (agg : Bool) : List AV → Option AV
  | cs => if agg then some (.agg cs) else match cs with | [c] => some c | _ => none
def lkO : OwnL → Nat → Option OE
  | [], _ => none
  | (k, v) :: l, x => match Nat.beq k x with | true => some v | false => lkO l x
theorem lkO_mem : ∀ {l : OwnL} {k : Nat} {e : OE}, lkO l k = some e → (k, e) ∈ l
  | [], k, e, h => by cases h
  | (j, x) :: l, k, e, h => by
    simp only [lkO] at h
    cases hj : Nat.beq j k with
    | true => rw [hj] at h; cases h; have := Nat.eq_of_beq_eq_true hj; subst this; simp
    | false => rw [hj] at h; simp [lkO_mem h]
theorem refsL_false {r : Ref} : ∀ {l : OwnL}, refsL r l = false → ∀ j x, (j, x) ∈ l → x.refs r = false
  | [], _, j, x, h => by cases h
  | (k, y) :: l, h, j, x, hm => by
    simp only [refsL, Bool.or_eq_false_iff] at h
    rcases List.mem_cons.1 hm with h1 | h1
    · cases h1; exact h.1
    · exact refsL_false h.2 j x h1
end Go.Bv

namespace Go.Bv
open Go.RowKit
def blks (u : Value) : List Nat := match u.ownBlock with | some b => [b] | none => []
theorem mem_blks {u : Value} {b : Nat} : b ∈ blks u ↔ u.ownBlock = some b := by
  unfold blks
  cases u.ownBlock with
  | none => simp
  | some k => simp; exact ⟨fun e => e.symm, fun e => e.symm⟩
mutual
def DV (P : Program) (w : World) : AV → Value → List Nat → Prop
  | .int k n, u, F => u = .int k n ∧ F = []
  | .bool b, u, F => u = .bool b ∧ F = []
  | .str s, u, F => u = .string s ∧ F = []
  | .sl xs, u, F => ∃ e sz us F', sizeP P e = some sz ∧ w.ownsRow 0 e sz u xs.length us ∧ DVE P w sz xs us F' ∧ F = blks u ++ F'
  | _, _, _ => False
def DVE (P : Program) (w : World) (sz : Nat) : List (List AV) → List Value → List Nat → Prop
  | [], us, F => us = [] ∧ F = []
  | c :: xs, us, F => ∃ us1 us2 F1 F2, us = us1 ++ us2 ∧ F = F1 ++ F2 ∧ c.length = sz ∧ DVL P w c us1 F1 ∧ DVE P w sz xs us2 F2
def DVL (P : Program) (w : World) : List AV → List Value → List Nat → Prop
  | [], us, F => us = [] ∧ F = []
  | c :: cs, us, F => ∃ u r F1 F2, us = u :: r ∧ F = F1 ++ F2 ∧ DV P w c u F1 ∧ DVL P w cs r F2
end
variable {P : Program} {w w' : World}
theorem ownsRow_stay {base n sz : Nat} {e : TypeId} {v : Value} {xs : List Value} (h : w.ownsRow base e sz v n xs) (hs : ∀ b ∈ blks v, w'.heap[b]? = w.heap[b]?) : w'.ownsRow base e sz v n xs := by
  refine ⟨h.1, h.2.imp id ?_⟩
  rintro ⟨g, cap, cur, rfl, h1, h2, h3⟩
  exact ⟨g, cap, cur, rfl, h1, (hs g (by simp [blks, Value.ownBlock])).trans h2, h3⟩
mutual
theorem DV.stay : ∀ (v : AV) (u : Value) (F : List Nat), DV P w v u F → (∀ b ∈ F, w'.heap[b]? = w.heap[b]?) → DV P w' v u F
  | .int _ _, _, _, h, _ => h
  | .bool _, _, _, h, _ => h
  | .str _, _, _, h, _ => h
  | .sl xs, u, F, ⟨e, sz, us, F', h1, h2, h3, h4⟩, hs => by
    subst h4
    exact ⟨e, sz, us, F', h1, ownsRow_stay h2 (fun b hb => hs b (by simp [hb])), DVE.stay sz xs us F' h3 (fun b hb => hs b (by simp [hb])), rfl⟩
  | .undef, _, _, h, _ => h.elim
  | .agg _, _, _, h, _ => h.elim
  | .tup _, _, _, h, _ => h.elim
  | .vptr _, _, _, h, _ => h.elim
  | .func _ _, _, _, h, _ => h.elim
  | .mp _ _, _, _, h, _ => h.elim
  | .slx, _, _, h, _ => h.elim
  | .raw _, _, _, h, _ => h.elim
theorem DVE.stay (sz : Nat) : ∀ (xs : List (List AV)) (us : List Value) (F : List Nat), DVE P w sz xs us F → (∀ b ∈ F, w'.heap[b]? = w.heap[b]?) → DVE P w' sz xs us F
  | [], _, _, h, _ => h
  | c :: xs, us, F, ⟨us1, us2, F1, F2, h1, h2, h3, h4, h5⟩, hs => by
    subst h2
    exact ⟨us1, us2, F1, F2, h1, rfl, h3, DVL.stay c us1 F1 h4 (fun b hb => hs b (by simp [hb])), DVE.stay sz xs us2 F2 h5 (fun b hb => hs b (by simp [hb]))⟩
theorem DVL.stay : ∀ (cs : List AV) (us : List Value) (F : List Nat), DVL P w cs us F → (∀ b ∈ F, w'.heap[b]? = w.heap[b]?) → DVL P w' cs us F
  | [], _, _, h, _ => h
  | c :: cs, us, F, ⟨u, r, F1, F2, h1, h2, h3, h4⟩, hs => by
    subst h2
    exact ⟨u, r, F1, F2, h1, rfl, DV.stay c u F1 h3 (fun b hb => hs b (by simp [hb])), DVL.stay cs r F2 h4 (fun b hb => hs b (by simp [hb]))⟩
end
mutual
theorem DV.lt : ∀ (v : AV) (u : Value) (F : List Nat), DV P w v u F → ∀ b ∈ F, b < w.heap.size
  | .int _ _, _, _, ⟨_, e⟩, b, hb => by subst e; cases hb
  | .bool _, _, _, ⟨_, e⟩, b, hb => by subst e; cases hb
  | .str _, _, _, ⟨_, e⟩, b, hb => by subst e; cases hb
  | .sl xs, u, F, ⟨e, sz, us, F', h1, h2, h3, h4⟩, b, hb => by
    subst h4
    rcases List.mem_append.1 hb with hb | hb
    · exact (h2.lt b (mem_blks.1 hb)).2
    · exact DVE.lt sz xs us F' h3 b hb
  | .undef, _, _, h, _, _ => h.elim
  | .agg _, _, _, h, _, _ => h.elim
  | .tup _, _, _, h, _, _ => h.elim
  | .vptr _, _, _, h, _, _ => h.elim
  | .func _ _, _, _, h, _, _ => h.elim
  | .mp _ _, _, _, h, _, _ => h.elim
  | .slx, _, _, h, _, _ => h.elim
  | .raw _, _, _, h, _, _ => h.elim
theorem DVE.lt (sz : Nat) : ∀ (xs : List (List AV)) (us : List Value) (F : List Nat), DVE P w sz xs us F → ∀ b ∈ F, b < w.heap.size
  | [], _, _, ⟨_, e⟩, b, hb => by subst e; cases hb
  | c :: xs, us, F, ⟨us1, us2, F1, F2, h1, h2, h3, h4, h5⟩, b, hb => by
    subst h2
    rcases List.mem_append.1 hb with hb | hb
    · exact DVL.lt c us1 F1 h4 b hb
    · exact DVE.lt sz xs us2 F2 h5 b hb
theorem DVL.lt : ∀ (cs : List AV) (us : List Value) (F : List Nat), DVL P w cs us F → ∀ b ∈ F, b < w.heap.size
  | [], _, _, ⟨_, e⟩, b, hb => by subst e; cases hb
  | c :: cs, us, F, ⟨u, r, F1, F2, h1, h2, h3, h4⟩, b, hb => by
    subst h2
    rcases List.mem_append.1 hb with hb | hb
    · exact DV.lt c u F1 h3 b hb
    · exact DVL.lt cs r F2 h4 b hb
end
theorem DVL.length : ∀ {cs : List AV} {us : List Value} {F : List Nat}, DVL P w cs us F → us.length = cs.length
  | [], _, _, ⟨e, _⟩ => by subst e; rfl
  | c :: cs, us, F, ⟨u, r, F1, F2, h1, h2, h3, h4⟩ => by subst h1; simp [DVL.length h4]
theorem DVL.append : ∀ {cs ds : List AV} {us vs : List Value} {F F' : List Nat}, DVL P w cs us F → DVL P w ds vs F' → DVL P w (cs ++ ds) (us ++ vs) (F ++ F')
  | [], _, _, _, _, _, ⟨e1, e2⟩, q => by subst e1; subst e2; exact q
  | c :: cs, _, _, _, _, _, ⟨u, r, F1, F2, h1, h2, h3, h4⟩, q => by
    subst h1; subst h2
    exact ⟨u, _, F1, _, rfl, by rw [List.append_assoc], h3, DVL.append h4 q⟩
theorem DVL.split : ∀ {cs ds : List AV} {us : List Value} {F : List Nat}, DVL P w (cs ++ ds) us F → ∃ us1 us2 F1 F2, us = us1 ++ us2 ∧ F = F1 ++ F2 ∧ DVL P w cs us1 F1 ∧ DVL P w ds us2 F2
  | [], ds, us, F, h => ⟨[], us, [], F, rfl, rfl, ⟨rfl, rfl⟩, h⟩
  | c :: cs, ds, us, F, ⟨u, r, F1, F2, h1, h2, h3, h4⟩ => by
    obtain ⟨us1, us2, G1, G2, e1, e2, h5, h6⟩ := DVL.split h4
    subst h1; subst h2; subst e1; subst e2
    exact ⟨u :: us1, us2, F1 ++ G1, G2, rfl, by rw [List.append_assoc], ⟨u, us1, F1, G1, rfl, rfl, h3, h5⟩, h6⟩
theorem DVE_iff {sz : Nat} : ∀ {xs : List (List AV)} {us : List Value} {F : List Nat}, DVE P w sz xs us F ↔ (∀ c ∈ xs, c.length = sz) ∧ DVL P w xs.flatten us F
  | [], us, F => ⟨fun h => ⟨by simp, h⟩, fun h => h.2⟩
  | c :: xs, us, F => by
    constructor
    · rintro ⟨us1, us2, F1, F2, h1, h2, h3, h4, h5⟩
      obtain ⟨h6, h7⟩ := DVE_iff.1 h5
      subst h1; subst h2
      exact ⟨fun d hd => (List.mem_cons.1 hd).elim (fun e => e ▸ h3) (h6 d), by rw [List.flatten_cons]; exact h4.append h7⟩
    · rintro ⟨h1, h2⟩
      rw [List.flatten_cons] at h2
      obtain ⟨us1, us2, F1, F2, e1, e2, h3, h4⟩ := h2.split
      exact ⟨us1, us2, F1, F2, e1, e2, h1 c (by simp), h3, DVE_iff.2 ⟨fun d hd => h1 d (by simp [hd]), h4⟩⟩
theorem cell_row {w : World} {b : Nat} {us : Array Value} {e : TypeId} {z : Nat × Nat} (h : w.heap[b]? = some (.cells us e z)) (j : Nat) : w.cell? ⟨b, j, none⟩ = us[j]? := by
  simp [World.cell?, h]
theorem relC_of {X X' : Gh} (hE : Ext X w X' w') {b : Nat} : ∀ (cs : List AV) (vs : List Value) (o : Nat), RelL X w cs vs → (∀ j u, vs[j]? = some u → w'.cell? ⟨b, o + j, none⟩ = some u) →
    (∀ j, j < cs.length → okc X' b (o + j)) → RelC X' w' b o cs
  | [], _, _, _, _, _ => trivial
  | c :: cs, _, o, ⟨u, r, e, h1, h2⟩, hc, hk => by
    subst e
    refine ⟨⟨u, hc 0 u rfl, hk 0 (by simp), Rel.mono hE _ _ h1⟩, relC_of hE cs r (o + 1) h2 (fun j v hj => ?_) (fun j hj => ?_)⟩
    · have := hc (j + 1) v (by simpa using hj)
      rwa [show o + (j + 1) = o + 1 + j by omega] at this
    · have := hk (j + 1) (by simpa using hj)
      rwa [show o + (j + 1) = o + 1 + j by omega] at this
theorem relE_of {X X' : Gh} (hE : Ext X w X' w') {b sz : Nat} : ∀ (rows : List (List AV)) (vs : List Value) (o : Nat), (∀ c ∈ rows, c.length = sz) → RelL X w rows.flatten vs →
    (∀ j u, vs[j]? = some u → w'.cell? ⟨b, o + j, none⟩ = some u) → (∀ j, j < rows.length * sz → okc X' b (o + j)) → RelE X' w' sz b o rows
  | [], _, _, _, _, _, _ => trivial
  | c :: rows, vs, o, hl, hr, hc, hk => by
    have hc1 : c.length = sz := hl c (by simp)
    have hlen : (c :: rows).length * sz = sz + rows.length * sz := by simp [Nat.add_mul]; omega
    rw [hlen] at hk
    rw [List.flatten_cons] at hr
    have h1 := RelL.take c.length hr
    rw [List.take_left] at h1
    have h2 := RelL.drop c.length hr
    rw [List.drop_left] at h2
    rw [hc1] at h1 h2
    refine ⟨hc1, relC_of hE c _ o h1 (fun j u hj => hc j u ?_) (fun j hj => hk j (by omega)), relE_of hE rows _ (o + sz) (fun c' h' => hl c' (by simp [h'])) h2 (fun j u hj => ?_) (fun j hj => ?_)⟩
    · rw [List.getElem?_take] at hj
      split at hj
      · exact hj
      · cases hj
    · rw [List.getElem?_drop] at hj
      have := hc (sz + j) u hj
      rwa [← Nat.add_assoc] at this
    · have := hk (sz + j) (by omega)
      rwa [← Nat.add_assoc] at this
theorem add_lit (b o j : Nat) : (⟨b, o, none⟩ : Addr).add j = ⟨b, o + j, none⟩ := by
  unfold Addr.add; split <;> simp_all
theorem rel_ownsRow {X : Gh} {e : TypeId} {sz : Nat} {u : Value} {xs : List (List AV)} {us : List Value} (h : w.ownsRow 0 e sz u xs.length us) (hl : ∀ c ∈ xs, c.length = sz) (hr : RelL X w xs.flatten us)
    (hX : ∀ b, u.ownBlock = some b → ∀ j, j < xs.length * sz → okc X b j) : Rel X w (.sl xs) u := by
  rcases h.2 with ⟨rfl, h2⟩ | ⟨g, cap, cur, rfl, h1, h2, h3, h4, h5, h6⟩
  · exact ⟨none, 0, 0, rfl, h2.symm, Nat.le_refl _, .inl (List.eq_nil_of_length_eq_zero h2)⟩
  · refine ⟨_, _, _, rfl, rfl, h3, .inr ⟨g, 0, sz, rfl, ?_⟩⟩
    refine relE_of (X := X) (Ext.refl _ _) xs us 0 hl hr (fun j v hj => ?_) (fun j hj => ?_)
    · have := h.cells (g := g) rfl j v hj
      rwa [add_lit] at this
    · rw [Nat.zero_add]; exact hX g rfl j hj
mutual
theorem DV.rel {X : Gh} : ∀ (v : AV) (u : Value) (F : List Nat), DV P w v u F → (∀ b ∈ F, X b = none) → Rel X w v u
  | .int _ _, _, _, ⟨h, _⟩, _ => h
  | .bool _, _, _, ⟨h, _⟩, _ => h
  | .str _, _, _, ⟨h, _⟩, _ => h
  | .sl xs, u, F, ⟨e, sz, us, F', h1, h2, h3, h4⟩, hX => by
    subst h4
    refine rel_ownsRow h2 (DVE_iff.1 h3).1 (DVE.rel sz xs us F' h3 (fun b hb => hX b (by simp [hb]))) (fun b hb j hj => ?_)
    simp [okc, hX b (by simp [mem_blks, hb])]
  | .undef, _, _, h, _ => h.elim
  | .agg _, _, _, h, _ => h.elim
  | .tup _, _, _, h, _ => h.elim
  | .vptr _, _, _, h, _ => h.elim
  | .func _ _, _, _, h, _ => h.elim
  | .mp _ _, _, _, h, _ => h.elim
  | .slx, _, _, h, _ => h.elim
  | .raw _, _, _, h, _ => h.elim
theorem DVE.rel {X : Gh} (sz : Nat) : ∀ (xs : List (List AV)) (us : List Value) (F : List Nat), DVE P w sz xs us F → (∀ b ∈ F, X b = none) → RelL X w xs.flatten us
  | [], _, _, h, _ => h.1
  | c :: xs, us, F, ⟨us1, us2, F1, F2, h1, h2, h3, h4, h5⟩, hX => by
    subst h2; subst h1
    rw [List.flatten_cons]
    exact (DVL.rel c us1 F1 h4 (fun b hb => hX b (by simp [hb]))).append (DVE.rel sz xs us2 F2 h5 (fun b hb => hX b (by simp [hb])))
theorem DVL.rel {X : Gh} : ∀ (cs : List AV) (us : List Value) (F : List Nat), DVL P w cs us F → (∀ b ∈ F, X b = none) → RelL X w cs us
  | [], _, _, h, _ => h.1
  | c :: cs, us, F, ⟨u, r, F1, F2, h1, h2, h3, h4⟩, hX => by
    subst h2
    exact ⟨u, r, h1, DV.rel c u F1 h3 (fun b hb => hX b (by simp [hb])), DVL.rel cs r F2 h4 (fun b hb => hX b (by simp [hb]))⟩
end
structure Gho where
  X : Gh
  bx : Nat → Nat
  lab : Nat → Option LP
  pv : OP → Value
def At (w : World) (lab : Nat → Option LP) (p : OP) : Value → Path → Value → Prop
  | v, [], u => u = v
  | v, (i, sz, o) :: π, u => ∃ b len cap v', v = .slice (some ⟨b, 0, none⟩) len cap ∧ lab b = some (.own p) ∧ i < len ∧ w.cell? ⟨b, i * sz + o, none⟩ = some v' ∧ At w lab p v' π u
def anyT : TypeId := 1000000007
def Rs (P : Program) (X : Gh) (w : World) : OE → Value → List Nat → Prop
  | .app e, u, F => ∃ sz n us, sizeP P e = some sz ∧ w.ownsRow 0 e sz u n us ∧ F = blks u ∧ ∀ b ∈ F, X b = some (n * sz)
  | .ex e dp xs, u, F => ∃ e' sz us F', (e' = e ∨ e = anyT) ∧ sizeP P e' = some sz ∧ w.ownsRow 0 e' sz u xs.length us ∧ (∀ c ∈ xs, c.length = sz) ∧ (match dp with | true => DVL P w xs.flatten us F' | false => F' = [] ∧ RelL X w xs.flatten us) ∧
      F = blks u ++ F' ∧ F.Nodup ∧ ∀ b ∈ F, X b = some 0
  | _, _, _ => False
def Own (P : Program) (G : Gho) (w : World) (p : OP) (oe : OE) (u : Value) : Prop :=
  match oe with
  | .al q π => At w G.lab q (G.pv q) π u ∧ ∃ A l k, u = .slice A l k
  | .sb q π lo sz n => (∃ A cap', u = .slice A n cap') ∧ (n = 0 ∨ ∃ b len cap cap', At w G.lab q (G.pv q) π (.slice (some ⟨b, 0, none⟩) len cap) ∧ G.lab b = some (.own q) ∧ lo + n ≤ len ∧ u = .slice (some ⟨b, lo * sz, none⟩) n cap')
  | oe => G.pv p = u ∧ ∃ F, Rs P G.X w oe u F ∧ ∀ b ∈ F, G.lab b = some (.own p)
def RelS (G : Gho) (w : World) : SV → Value → Prop
  | .v x, u => Rel G.X w x u
  | .ptr d off, u => u = .pointer (some ⟨G.bx d, off, none⟩)
  | .el p π i sz off, u => ∃ b len cap, At w G.lab p (G.pv p) π (.slice (some ⟨b, 0, none⟩) len cap) ∧ G.lab b = some (.own p) ∧ i < len ∧ u = .pointer (some ⟨b, i * sz + off, none⟩)
  | .mp d, u => u = .map (some (G.bx d))
structure Fr (Fin : Nat → Prop) (w w' : World) : Prop where
  os : w'.os = w.os
  tape : w'.tape = w.tape
  output : w'.output = w.output
  size : w.heap.size ≤ w'.heap.size
  block : ∀ b, b < w.heap.size → ¬ Fin b → w'.heap[b]? = w.heap[b]?
theorem Fr.refl (Fin : Nat → Prop) (w : World) : Fr Fin w w := ⟨rfl, rfl, rfl, Nat.le_refl _, fun _ _ _ => rfl⟩
def tab10 : String := "internal/strconv.uint64pow10"
def GT (P : Program) (w : World) (Z : Nat → Prop) : Prop :=
  ∀ g, P.globalNamed tab10 = some g → g < w.heap.size ∧ ¬ Z g ∧ Lib.TabIs P w tab10 .u64 Lib.pow10Tab
theorem GT.on {P : Program} {w w' : World} {Z Z' : Nat → Prop} (h : GT P w Z) (hf : Fr Z w w') (hz : ∀ b, b < w.heap.size → Z' b → Z b) : GT P w' Z' := by
  intro g hg
  obtain ⟨h1, h2, h3⟩ := h g hg
  refine ⟨Nat.lt_of_lt_of_le h1 hf.size, fun hb => h2 (hz g h1 hb), ?_⟩
  unfold Lib.TabIs World.var? at *
  rw [hg] at h3 ⊢
  simp only [Option.bind_some] at h3 ⊢
  rw [hf.block g h1 h2]
  exact h3
theorem GT.none {P : Program} {w : World} {Z : Nat → Prop} (h : P.globalNamed tab10 = Option.none) : GT P w Z := fun g hg => by rw [h] at hg; cases hg
structure Env where
  P : Program
  w0 : World
  X0 : Gh
  Fin : Nat → Prop
  pv0 : Nat → Nat → Value
  pb : Nat → Nat
  n : Nat
  gt : GT P w0 Fin
structure BoxOk (P : Program) (G : Gho) (w : World) (d : Nat) (cs : List AV) (own : OwnL) (us : Array Value) : Prop where
  rel : RelL G.X w cs us.toList
  own : ∀ j oe, (j, oe) ∈ own → ∃ u, us[j]? = some u ∧ Own P G w (.b d j) oe u
def BXok (P : Program) (G : Gho) (w : World) (d : Nat) : BX → Prop
  | .cells cs own => ∃ us e, w.heap[G.bx d]? = some (.cells us e (0, 0)) ∧ BoxOk P G w d cs own us
  | .map ks vs => ∃ es k, w.heap[G.bx d]? = some (.map es k) ∧ RelL G.X w ks (es.toList.map MapEntry.key) ∧ RelL G.X w vs (es.toList.map MapEntry.val)
  | .ref q => ∃ e, w.heap[G.bx d]? = some (.cells #[.map (some (G.bx q))] e (0, 0))
structure Inv (E : Env) (L : Look) (a : Act) (w : World) (G : Gho) : Prop where
  size : a.tmps.size = E.n
  dfr : a.defers = []
  fr : Fr E.Fin E.w0 w
  old : ∀ b, b < E.w0.heap.size → ¬ E.Fin b → G.X b = E.X0 b
  new : ∀ b, w.heap.size ≤ b → G.X b = none ∧ G.lab b = none
  may : ∀ b p, G.lab b = some p → E.w0.heap.size ≤ b ∨ E.Fin b
  pin : (∀ i j, G.pv (.a i j) = E.pv0 i j) ∧ E.n ≤ 1000000 ∧ ∀ d, 1000000 ≤ d → G.bx d = E.pb d
  tm : ∀ s sv own, L.t s = some (sv, own) → s < E.n ∧ RelS G w sv (a.tmps.getD s undef) ∧ ∀ j oe, (j, oe) ∈ own → ∃ u, (Value.flat (a.tmps.getD s undef))[j]? = some u ∧ Own E.P G w (.t s j) oe u
  bo : ∀ d x, L.b d = some x → G.X (G.bx d) = some 0 ∧ G.lab (G.bx d) = some (.box d) ∧ BXok E.P G w d x
  gr : ∀ i own, L.g i = some own → ∀ j oe, (j, oe) ∈ own → Own E.P G w (.a i j) oe (E.pv0 i j)
def SR (E : Env) (L : Look) (a : Act) (w : World) : Prop := ∃ G, Inv E L a w G
end Go.Bv

namespace Go.Bv
open Go.RowKit
variable {E : Env} {P : Program} {n : Nat} {L L' : Look} {a : Act} {w w' : World} {G G' : Gho}
def okE (D : LP → Prop) (p : OP) : OE → Prop
  | .al q π => pinB q π = true ∨ ¬ D (.own q)
  | .sb q _ _ _ _ => ¬ D (.own q)
  | _ => ¬ D (.own p)
def okS (D : LP → Prop) : SV → Prop
  | .v _ => True
  | .ptr d _ => ¬ D (.ptr d)
  | .el p _ _ _ _ => ¬ D (.own p)
  | .mp d => ¬ D (.ptr d)
def okB (D : LP → Prop) (d : Nat) : BX → BX → Prop
  | .cells cs own, .cells cs' own' => cs = cs' ∧ ∀ j oe, (j, oe) ∈ own → (j, oe) ∈ own' ∧ okE D (.b d j) oe
  | .map ks vs, .map ks' vs' => ks = ks' ∧ vs = vs'
  | .ref q, .ref q' => q = q' ∧ ¬ D (.ptr q)
  | _, _ => False
structure Sub (D : LP → Prop) (L' L : Look) : Prop where
  t : ∀ s sv own, L'.t s = some (sv, own) → ∃ own0, L.t s = some (sv, own0) ∧ okS D sv ∧ ∀ j oe, (j, oe) ∈ own → (j, oe) ∈ own0 ∧ okE D (.t s j) oe
  b : ∀ d x, L'.b d = some x → ¬ (D (.box d) ∨ D (.ptr d)) ∧ ∃ y, L.b d = some y ∧ okB D d x y
  g : ∀ i own, L'.g i = some own → ∃ own0, L.g i = some own0 ∧ ∀ j oe, (j, oe) ∈ own → (j, oe) ∈ own0 ∧ okE D (.a i j) oe
structure Stp (D : LP → Prop) (w w' : World) (G G' : Gho) : Prop where
  os : w'.os = w.os
  tape : w'.tape = w.tape
  output : w'.output = w.output
  size : w.heap.size ≤ w'.heap.size
  same : ∀ b, b < w.heap.size → (∀ p, G.lab b = some p → ¬ D p) → w'.heap[b]? = w.heap[b]? ∧ G'.X b = G.X b ∧ G'.lab b = G.lab b
  ext : Ext G.X w G'.X w'
  was : ∀ b, w.heap.size ≤ b → G.lab b = none
  new : ∀ b, w'.heap.size ≤ b → G'.X b = none ∧ G'.lab b = none
  may : ∀ b p, G'.lab b = some p → (∃ q, G.lab b = some q) ∨ w.heap.size ≤ b
  bx : ∀ d, ¬ D (.ptr d) → G'.bx d = G.bx d
  pv : ∀ p, ¬ D (.own p) → G'.pv p = G.pv p
  pin : (∀ i j, G'.pv (.a i j) = G.pv (.a i j)) ∧ ∀ d, 1000000 ≤ d → G'.bx d = G.bx d
theorem cell_same {b : Nat} (h : w'.heap[b]? = w.heap[b]?) (o : Nat) : w'.cell? ⟨b, o, none⟩ = w.cell? ⟨b, o, none⟩ := World.cell?_of_block (w := w) (a := ⟨b, o, none⟩) h
theorem Stp.at_ {D : LP → Prop} (h : Stp D w w' G G') {q : OP} (hq : ¬ D (.own q)) : ∀ {π : Path} {v u : Value}, At w G.lab q v π u → At w' G'.lab q v π u
  | [], v, u, e => e
  | (i, sz, o) :: π, v, u, ⟨b, len, cap, v', h1, h2, h3, h4, h5⟩ => by
    have hlt : b < w.heap.size := World.block_lt_of_cell? w ⟨b, i * sz + o, none⟩ h4
    obtain ⟨s1, s2, s3⟩ := h.same b hlt (fun p hp => by rw [h2] at hp; cases hp; exact hq)
    exact ⟨b, len, cap, v', h1, s3.trans h2, h3, (cell_same s1 _).trans h4, h.at_ hq h5⟩
theorem Rs.lt {X : Gh} {oe : OE} {u : Value} {F : List Nat} (h : Rs P X w oe u F) : ∀ b ∈ F, b < w.heap.size := by
  intro b hb
  cases oe with
  | app e =>
    obtain ⟨sz, n, us, h1, h2, rfl, h4⟩ := h
    exact (h2.lt b (mem_blks.1 hb)).2
  | ex e dp xs =>
    obtain ⟨e', sz, us, F', h0, h1, h2, h3, h4, rfl, h6, h7⟩ := h
    rcases List.mem_append.1 hb with hb | hb
    · exact (h2.lt b (mem_blks.1 hb)).2
    · cases dp with
      | true => exact DVL.lt _ _ _ h4 b hb
      | false => obtain ⟨rfl, _⟩ := h4; cases hb
  | al q π => exact h.elim
  | sb q π lo sz n => exact h.elim
theorem Rs.stay {X X' : Gh} {oe : OE} {u : Value} {F : List Nat} (h : Rs P X w oe u F) (hs : ∀ b ∈ F, w'.heap[b]? = w.heap[b]? ∧ X' b = X b) (hE : Ext X w X' w') : Rs P X' w' oe u F := by
  cases oe with
  | app e =>
    obtain ⟨sz, n, us, h1, h2, rfl, h4⟩ := h
    exact ⟨sz, n, us, h1, ownsRow_stay h2 (fun b hb => (hs b hb).1), rfl, fun b hb => (hs b hb).2.trans (h4 b hb)⟩
  | ex e dp xs =>
    obtain ⟨e', sz, us, F', h0, h1, h2, h3, h4, rfl, h6, h7⟩ := h
    refine ⟨e', sz, us, F', h0, h1, ownsRow_stay h2 (fun b hb => (hs b (by simp [hb])).1), h3, ?_, rfl, h6, fun b hb => (hs b hb).2.trans (h7 b hb)⟩
    cases dp with
    | true => exact DVL.stay _ _ _ h4 (fun b hb => (hs b (by simp [hb])).1)
    | false => exact ⟨h4.1, RelL.mono hE _ _ h4.2⟩
  | al q π => exact h.elim
  | sb q π lo sz n => exact h.elim
theorem rs_slice {X : Gh} {oe : OE} {u : Value} {F : List Nat} (h : Rs P X w oe u F) : ∃ A l k, u = .slice A l k := by
  have key : ∀ {e : TypeId} {sz n : Nat} {us : List Value}, w.ownsRow 0 e sz u n us → ∃ A l k, u = .slice A l k := by
    intro e sz n us h
    rcases h.2 with ⟨rfl, _⟩ | ⟨g, cap, cur, rfl, _⟩
    · exact ⟨_, _, _, rfl⟩
    · exact ⟨_, _, _, rfl⟩
  cases oe with
  | app e => obtain ⟨sz, n, us, h1, h2, _⟩ := h; exact key h2
  | ex e dp xs => obtain ⟨e', sz, us, F', h0, h1, h2, _⟩ := h; exact key h2
  | al q π => exact h.elim
  | sb q π lo sz n => exact h.elim
theorem own_slice {p : OP} {oe : OE} {u : Value} (h : Own P G w p oe u) (hw : oe.owner = true) : ∃ A l k, u = .slice A l k := by
  cases oe with
  | app e => obtain ⟨_, F, h, _⟩ := h; exact rs_slice h
  | ex e dp xs => obtain ⟨_, F, h, _⟩ := h; exact rs_slice h
  | al q π => cases hw
  | sb q π lo sz n => cases hw
theorem Stp.own {D : LP → Prop} (h : Stp D w w' G G') {p : OP} {oe : OE} {u : Value} (hk : okE D p oe) (ho : Own P G w p oe u) : Own P G' w' p oe u := by
  have key : ∀ oe, (∀ q π, oe ≠ .al q π) → (∀ q π lo sz n, oe ≠ .sb q π lo sz n) → ¬ D (.own p) → (G.pv p = u ∧ ∃ F, Rs P G.X w oe u F ∧ ∀ b ∈ F, G.lab b = some (.own p)) →
      (G'.pv p = u ∧ ∃ F, Rs P G'.X w' oe u F ∧ ∀ b ∈ F, G'.lab b = some (.own p)) := by
    rintro oe - - hD ⟨h1, F, h2, h3⟩
    have hs : ∀ b ∈ F, w'.heap[b]? = w.heap[b]? ∧ G'.X b = G.X b ∧ G'.lab b = G.lab b := fun b hb =>
      h.same b (h2.lt b hb) (fun q hq => by rw [h3 b hb] at hq; cases hq; exact hD)
    exact ⟨(h.pv p hD).trans h1, F, h2.stay (fun b hb => ⟨(hs b hb).1, (hs b hb).2.1⟩) h.ext, fun b hb => (hs b hb).2.2.trans (h3 b hb)⟩
  cases oe with
  | al q π =>
    refine ⟨?_, ho.2⟩
    rcases hk with hk | hk
    · unfold pinB at hk
      split at hk
      · rw [h.pin.1]; exact ho.1
      · cases hk
    · rw [h.pv q hk]
      exact h.at_ hk ho.1
  | sb q π lo sz n =>
    refine ⟨ho.1, ho.2.imp id ?_⟩
    rintro ⟨b, len, cap, cap', h1, h2, h3⟩
    refine ⟨b, len, cap, cap', ?_, ?_, h3⟩
    · rw [h.pv q hk]; exact h.at_ hk h1
    · have hlt : b < w.heap.size := Nat.lt_of_not_le (fun hle => by rw [h.was b hle] at h2; cases h2)
      exact (h.same b hlt (fun p hp => by rw [h2] at hp; cases hp; exact hk)).2.2.trans h2
  | app e => exact key _ (by simp) (by simp) hk ho
  | ex e dp xs => exact key _ (by simp) (by simp) hk ho
theorem Stp.relS {D : LP → Prop} (h : Stp D w w' G G') {sv : SV} {u : Value} (hk : okS D sv) (hr : RelS G w sv u) : RelS G' w' sv u := by
  cases sv with
  | v x => exact Rel.mono h.ext _ _ hr
  | ptr d off => have := h.bx d hk; simpa [RelS, this] using hr
  | mp d => have := h.bx d hk; simpa [RelS, this] using hr
  | el p π i sz off =>
    obtain ⟨b, len, cap, h1, h2, h3⟩ := hr
    refine ⟨b, len, cap, ?_, ?_, h3⟩
    · rw [h.pv p hk]; exact h.at_ hk h1
    · have hlt : b < w.heap.size := Nat.lt_of_not_le (fun hle => by rw [h.was b hle] at h2; cases h2)
      exact (h.same b hlt (fun q hq => by rw [h2] at hq; cases hq; exact hk)).2.2.trans h2
theorem Inv.step (h : Inv E L a w G) {D : LP → Prop} (hL : Sub D L' L) (hS : Stp D w w' G G') : Inv E L' a w' G' := by
  refine ⟨h.size, h.dfr, ?_, ?_, hS.new, ?_, ⟨fun i j => (hS.pin.1 i j).trans (h.pin.1 i j), h.pin.2.1, fun d hd => (hS.pin.2 d hd).trans (h.pin.2.2 d hd)⟩, ?_, ?_, ?_⟩
  · refine ⟨hS.os.trans h.fr.os, hS.tape.trans h.fr.tape, hS.output.trans h.fr.output, Nat.le_trans h.fr.size hS.size, fun b hb hF => ?_⟩
    refine (hS.same b (Nat.lt_of_lt_of_le hb h.fr.size) (fun p hp => ?_)).1.trans (h.fr.block b hb hF)
    rcases h.may b p hp with h1 | h1
    · omega
    · exact absurd h1 hF
  · intro b hb hF
    refine (hS.same b (Nat.lt_of_lt_of_le hb h.fr.size) (fun p hp => ?_)).2.1.trans (h.old b hb hF)
    rcases h.may b p hp with h1 | h1
    · omega
    · exact absurd h1 hF
  · intro b p hp
    rcases hS.may b p hp with ⟨q, hq⟩ | h1
    · exact h.may b q hq
    · exact .inl (Nat.le_trans h.fr.size h1)
  · intro s sv own hs
    obtain ⟨own0, h1, h2, h3⟩ := hL.t s sv own hs
    obtain ⟨h4, h5, h6⟩ := h.tm s sv own0 h1
    refine ⟨h4, hS.relS h2 h5, fun j oe hj => ?_⟩
    obtain ⟨u, hu, ho⟩ := h6 j oe (h3 j oe hj).1
    exact ⟨u, hu, hS.own (h3 j oe hj).2 ho⟩
  · intro d x hd
    obtain ⟨hD, y, h1, h2⟩ := hL.b d x hd
    obtain ⟨h3, h4, h5⟩ := h.bo d y h1
    have hlt : G.bx d < w.heap.size := Nat.lt_of_not_le (fun hle => by rw [hS.was _ hle] at h4; cases h4)
    obtain ⟨s1, s2, s3⟩ := hS.same (G.bx d) hlt (fun q hq => by rw [h4] at hq; cases hq; exact fun h => hD (.inl h))
    have hbx := hS.bx d (fun h => hD (.inr h))
    refine ⟨by rw [hbx, s2]; exact h3, by rw [hbx, s3]; exact h4, ?_⟩
    cases x with
    | cells cs own =>
      cases y with
      | map ks vs => exact h2.elim
      | ref q => exact h2.elim
      | cells cs' own' =>
        obtain ⟨rfl, h2⟩ := h2
        obtain ⟨us, e, h6, h7⟩ := h5
        refine ⟨us, e, by rw [hbx, s1]; exact h6, RelL.mono hS.ext _ _ h7.rel, fun j oe hj => ?_⟩
        obtain ⟨u, hu, ho⟩ := h7.own j oe (h2 j oe hj).1
        exact ⟨u, hu, hS.own (h2 j oe hj).2 ho⟩
    | map ks vs =>
      cases y with
      | cells cs' own' => exact h2.elim
      | ref q => exact h2.elim
      | map ks' vs' =>
        obtain ⟨rfl, rfl⟩ := h2
        obtain ⟨es, k, h6, h7, h8⟩ := h5
        exact ⟨es, k, by rw [hbx, s1]; exact h6, RelL.mono hS.ext _ _ h7, RelL.mono hS.ext _ _ h8⟩
    | ref q =>
      cases y with
      | cells cs' own' => exact h2.elim
      | map ks' vs' => exact h2.elim
      | ref q' =>
        obtain ⟨rfl, h2⟩ := h2
        obtain ⟨e, h6⟩ := h5
        exact ⟨e, by rw [hbx, s1, hS.bx q h2]; exact h6⟩
  · intro i own hi j oe hj
    obtain ⟨own0, h1, h2⟩ := hL.g i own hi
    exact hS.own (h2 j oe hj).2 (h.gr i own0 h1 j oe (h2 j oe hj).1)
theorem getD_set (a : Act) (d s : Nat) (u : Value) (hd : d < a.tmps.size) : (a.put (some d) u).tmps.getD s undef = if s = d then u else a.tmps.getD s undef := by
  simp only [Act.put, Array.getD_eq_getD_getElem?, Array.getElem?_setIfInBounds]
  by_cases h : d = s
  · subst h; simp [hd]
  · rw [if_neg h, if_neg (fun e => h e.symm)]
theorem Inv.setT (h : Inv E L a w G) {d : Nat} {sv : SV} {own : OwnL} {u : Value} (hd : d < E.n) (hs : RelS G w sv u)
    (ho : ∀ j oe, (j, oe) ∈ own → ∃ c, (Value.flat u)[j]? = some c ∧ Own E.P G w (.t d j) oe c) : Inv E (L.upd (.t d (sv, own))) (a.put (some d) u) w G := by
  have hsz : d < a.tmps.size := by rw [h.size]; exact hd
  refine ⟨by simp [Act.put, h.size], h.dfr, h.fr, h.old, h.new, h.may, h.pin, ?_, h.bo, h.gr⟩
  intro s sv' own' hs'
  rw [getD_set a d s u hsz]
  by_cases e : s = d
  · subst e
    simp only [Look.upd, if_pos] at hs'
    cases hs'
    rw [if_pos rfl]
    exact ⟨hd, hs, ho⟩
  · simp only [Look.upd, if_neg e] at hs'
    rw [if_neg e]
    exact h.tm s sv' own' hs'
theorem Inv.setT' (h : Inv E L a w G) {d : Nat} {sv : SV} {own : OwnL} (hd : d < E.n) (hs : RelS G w sv (a.tmps.getD d undef))
    (ho : ∀ j oe, (j, oe) ∈ own → ∃ c, (Value.flat (a.tmps.getD d undef))[j]? = some c ∧ Own E.P G w (.t d j) oe c) : Inv E (L.upd (.t d (sv, own))) a w G := by
  refine ⟨h.size, h.dfr, h.fr, h.old, h.new, h.may, h.pin, ?_, h.bo, h.gr⟩
  intro s sv' own' hs'
  by_cases e : s = d
  · subst e
    simp only [Look.upd, if_pos] at hs'
    cases hs'
    exact ⟨hd, hs, ho⟩
  · simp only [Look.upd, if_neg e] at hs'
    exact h.tm s sv' own' hs'
theorem Inv.setB (h : Inv E L a w G) {d : Nat} {x : BX} (h1 : G.X (G.bx d) = some 0) (h2 : G.lab (G.bx d) = some (.box d)) (h3 : BXok E.P G w d x) : Inv E (L.upd (.b d x)) a w G := by
  refine ⟨h.size, h.dfr, h.fr, h.old, h.new, h.may, h.pin, h.tm, ?_, h.gr⟩
  intro k y hk
  by_cases e : k = d
  · subst e
    simp only [Look.upd, if_pos] at hk
    cases hk
    exact ⟨h1, h2, h3⟩
  · simp only [Look.upd, if_neg e] at hk
    exact h.bo k y hk
theorem Inv.setG (h : Inv E L a w G) {i : Nat} {own : OwnL} (ho : ∀ j oe, (j, oe) ∈ own → Own E.P G w (.a i j) oe (E.pv0 i j)) : Inv E (L.upd (.g i own)) a w G := by
  refine ⟨h.size, h.dfr, h.fr, h.old, h.new, h.may, h.pin, h.tm, h.bo, ?_⟩
  intro k y hk
  by_cases e : k = i
  · subst e
    simp only [Look.upd, if_pos] at hk
    cases hk
    exact ho
  · simp only [Look.upd, if_neg e] at hk
    exact h.gr k y hk
theorem Inv.less (h : Inv E L a w G) (hL : Sub (fun _ => False) L' L) : Inv E L' a w G :=
  h.step hL ⟨rfl, rfl, rfl, Nat.le_refl _, fun b _ _ => ⟨rfl, rfl, rfl⟩, Ext.refl _ _, fun b hb => (h.new b hb).2, h.new, fun b p hp => .inl ⟨p, hp⟩, fun _ _ => rfl, fun _ _ => rfl, ⟨fun _ _ => rfl, fun _ _ => rfl⟩⟩
end Go.Bv

namespace Go.Bv
open Go.RowKit
inductive AD where
  | v (x : AV) (own : OwnL)
  | io (x : AV) (own : OwnL)
  | p (cs : List AV) (own : OwnL)
inductive Fix where
  | un (p : OP)
  | sh (p : OP)
  | ow (p : OP) (dp : Bool)
  | ag (p : OP)
  | so (k : Nat)
  | pl (t : Nat)
structure Hint where
  v : Option AV := none
  c : Option (List (List AV)) := none
  tk : List Nat := []
  io : List Nat := []
  md : Nat := 0
  at' : Option (List (List AV)) := none
  r : Option AD := none
  outs : List (Nat × AD) := []
  ioc : OwnL := []
  fx : List Fix := []
  re : Option AV := none
abbrev Ans := Option (List Upd × List Prop)
def memN (k : Nat) : List Nat → Bool
  | [] => false
  | x :: l => Nat.beq x k || memN k l
def anyOwn : OwnL → Bool
  | [] => false
  | (_, x) :: l => x.owner || anyOwn l
def ev (L : Look) : Operand → Option (SV × OwnL)
  | .tmp t => L.t t
  | .const v => (avConst v).map fun a => (.v a, [])
  | .func f => some (.v (.func f []), [])
  | .global _ => none
def evV (L : Look) (x : Operand) : Option AV := match ev L x with | some (.v a, _) => some a | _ => none
def evVs (L : Look) : List Operand → Option (List AV)
  | [] => some []
  | x :: xs => match evV L x, evVs L xs with | some a, some as => some (a :: as) | _, _ => none
def seen (p : Nat → OP) : OwnL → OwnL
  | [] => []
  | (_, .app _) :: l => seen p l
  | (j, .ex _ _ _) :: l => (j, .al (p j) []) :: seen p l
  | (j, x) :: l => (j, x) :: seen p l
def grab (L : Look) (x : Operand) (tk : List Nat) : Option (SV × OwnL × List Upd) :=
  match x with
  | .tmp t => match L.t t with
    | some (sv, own) => match memN t tk with
      | true => match sv with
        | .v y => match refsL (.t t) own with
          | true => none
          | false => some (.v y, own, [.f (.t t), .t t (.v y, [])])
        | _ => none
      | false => some (sv, seen (.t t) own, [])
    | none => none
  | x => match ev L x with
    | some (sv, _) => some (sv, [], [])
    | none => none
def fresh (d : Nat) : List Upd := [.f (.t d), .t d (.v .undef, [])]
def putT (d : Nat) (sv : SV) (own : OwnL) : Option (List Upd) :=
  match anyOwn own with
  | false => some [.t d (sv, own)]
  | true => match sv.refs (.t d) || refsL (.t d) own with
    | true => none
    | false => some (fresh d ++ [.t d (sv, own)])
def isNilC : Operand → Bool
  | .const (.slice none 0 0) => true
  | _ => false
def AV.solid : AV → Bool
  | .undef | .tup _ => false
  | _ => true
def AV.leaf : AV → Bool
  | .undef | .tup _ | .agg _ => false
  | _ => true
def AV.dry1 : AV → Bool
  | .int _ _ | .bool _ | .str _ | .undef | .slx | .raw _ => true
  | _ => false
def AV.dry (v : AV) : Bool := v.flat.all AV.dry1
def setAll {α : Type} (cs : List α) (off : Nat) : List α → List α
  | [] => cs
  | c :: r => setAll (cs.set off c) (off + 1) r
def one (d : Nat) (v : AV) (h : Hint) (obs : List Prop) : Ans :=
  match h.v with
  | some v' => some ([.t d (.v v', [])], obs ++ [v = v'])
  | none => some ([.t d (.v v, [])], obs)
def binI (op : BinOp) (k : IntKind) (x y : Int) : Option AV :=
  match op with
  | .add => some (.int k (k.wrap (x + y)))
  | .sub => some (.int k (k.wrap (x - y)))
  | .mul => some (.int k (k.wrap (x * y)))
  | .eql => some (.bool (x == y))
  | .neq => some (.bool (x != y))
  | .lss => some (.bool (decide (x < y)))
  | .leq => some (.bool (decide (x ≤ y)))
  | .gtr => some (.bool (decide (x > y)))
  | .geq => some (.bool (decide (x ≥ y)))
  | _ => none
def binS (op : BinOp) (x y : ByteArray) : Option AV :=
  match op with
  | .eql => some (.bool (x.toList == y.toList))
  | .neq => some (.bool (!(x.toList == y.toList)))
  | .lss => some (.bool (Op.bytesLess x.toList y.toList))
  | .leq => some (.bool (Op.bytesLess x.toList y.toList || x.toList == y.toList))
  | .gtr => some (.bool (!(Op.bytesLess x.toList y.toList || x.toList == y.toList)))
  | .geq => some (.bool (!Op.bytesLess x.toList y.toList))
  | _ => none
def bt (s : ByteArray) (i : Int) : Int := (((s[i.toNat]?).getD 0).toNat : Int)
def sumOk (x y : ByteArray) : Prop := ((x.size + y.size : Nat) : Int) ≤ 9223372036854775807
def optInt (L : Look) : Option Operand → Option (Option Int)
  | none => some none
  | some x => match evV L x with | some (.int _ n) => some (some n) | _ => none
def inRange (lo n j : Nat) : Bool := Nat.ble lo j && Nat.blt j (lo + n)
def cutO (lo n : Nat) : OwnL → OwnL
  | [] => []
  | (j, x) :: l => match inRange lo n j with | true => (j - lo, x) :: cutO lo n l | false => cutO lo n l
def restO (lo n : Nat) : OwnL → OwnL
  | [] => []
  | (j, x) :: l => match inRange lo n j with | true => restO lo n l | false => (j, x) :: restO lo n l
def shiftO (off : Nat) : OwnL → OwnL
  | [] => []
  | (j, x) :: l => (off + j, x) :: shiftO off l
def zeroOwn (P : Program) (T : TypeId) : OwnL :=
  match (P.info? T).bind (·.zero) with
  | some z => ((slicesIn P 8 0 T).filter fun p => match z.cells[p.1]? with | some (.slice none 0 0) => (sizeP P p.2).isSome | _ => false).map fun p => (p.1, .app p.2)
  | none => []
def setO (own : OwnL) (j : Nat) (x : OE) : OwnL :=
  match own with
  | [] => []
  | (k, y) :: l => match Nat.beq k j with | true => (k, x) :: setO l j x | false => (k, y) :: setO l j x
def rootO (L : Look) : OP → Option OE
  | .t s j => match L.t s with | some (_, own) => lkO own j | none => none
  | .b d j => match L.b d with | some (.cells _ own) => lkO own j | _ => none
  | .a i j => match L.g i with | some own => lkO own j | none => none
def getC : List (List AV) → Path → Option (List (List AV))
  | xs, [] => some xs
  | xs, (i, sz, o) :: π => match xs[i]? with
    | some c => match Nat.beq c.length sz, c[o]? with | true, some (.sl ys) => getC ys π | _, _ => none
    | none => none
def setC : List (List AV) → Path → List (List AV) → List (List AV)
  | _, [], ys => ys
  | xs, (i, _, o) :: π, ys => xs.modify i fun c => c.modify o fun | .sl zs => .sl (setC zs π ys) | v => v
def contAt (L : Look) (p : OP) (π : Path) (h : Hint) : Option (Bool × List (List AV) × List Prop) :=
  match rootO L p with
  | some (.ex _ dp xs) => match π with
    | [] => some (dp, xs, [])
    | π => match dp, h.at' with | true, some ys => some (true, ys, [getC xs π = some ys]) | _, _ => none
  | _ => none
inductive SlV where
  | plain (xs : List (List AV))
  | held (p : OP) (π : Path)
  | part (p : OP) (π : Path) (lo sz n : Nat)
def sliceOf (L : Look) (x : Operand) : Option SlV :=
  match x with
  | .tmp t => match L.t t with
    | some (.v (.sl xs), _) => some (.plain xs)
    | some (.v .slx, own) => match lkO own 0 with
      | some (.ex _ _ _) => some (.held (.t t 0) [])
      | some (.al p π) => some (.held p π)
      | some (.sb p π lo sz n) => some (.part p π lo sz n)
      | _ => none
    | _ => none
  | .const (.slice none 0 0) => some (.plain [])
  | _ => none
def fillD (own : OwnL) : Nat → List AV → Option (List AV)
  | _, [] => some []
  | j, c :: cs => match fillD own (j + 1) cs with
    | some r => match lkO own j with
      | some (.ex _ true ys) => some (.sl ys :: r)
      | some (.app _) => match c with | .sl [] => some (.sl [] :: r) | _ => none
      | some _ => none
      | none => match c with
        | .int k n => some (.int k n :: r)
        | .bool b => some (.bool b :: r)
        | .str s => some (.str s :: r)
        | _ => none
    | none => none
def fillS (own : OwnL) (cs : List AV) : Option (List AV) := match own.all (fun x => match x.2 with | .app _ => true | _ => false) && cs.all AV.leaf with | true => some cs | false => none
def mask1 : AV → AV | .sl _ => .slx | c => c
def mask2 : AV → AV | .raw _ => .slx | c => c
end Go.Bv

namespace Go.Bv
open Go.RowKit
variable {E : Env} {P : Program} {n : Nat} {L L' : Look} {a : Act} {w w' : World} {G G' : Gho} {D D' : LP → Prop}
def DR : Ref → LP → Prop
  | .t s, .own (.t k _) => k = s
  | .b d, .own (.b k _) => k = d
  | .bp d, .own (.b k _) => k = d
  | .bp d, .box k => k = d
  | .bp d, .ptr k => k = d
  | .a i, .own (.a k _) => k = i
  | _, _ => False
theorem DR_inn {r : Ref} {p : OP} (h : DR r (.own p)) : p.inn r = true ∧ ∀ π, hdrR r π = false := by
  cases r <;> cases p <;> first | exact h.elim | (have h' := h; simp only [DR] at h'; subst h'; exact ⟨by simp [OP.inn], fun π => rfl⟩)
def okX (D : LP → Prop) (d : Nat) : BX → Prop
  | .cells _ own => ∀ j oe, (j, oe) ∈ own → okE D (.b d j) oe
  | .map _ _ => True
  | .ref q => ¬ D (.ptr q)
structure Av (D : LP → Prop) (L : Look) : Prop where
  t : ∀ s sv own, L.t s = some (sv, own) → okS D sv ∧ ∀ j oe, (j, oe) ∈ own → okE D (.t s j) oe
  b : ∀ d x, L.b d = some x → ¬ (D (.box d) ∨ D (.ptr d)) ∧ okX D d x
  g : ∀ i own, L.g i = some own → ∀ j oe, (j, oe) ∈ own → okE D (.a i j) oe
theorem Av.sub (h : Av D L) : Sub D L L := by
  refine ⟨fun s sv own hs => ⟨own, hs, (h.t s sv own hs).1, fun j oe hj => ⟨hj, (h.t s sv own hs).2 j oe hj⟩⟩, fun d x hd => ⟨(h.b d x hd).1, x, hd, ?_⟩, fun i own hi => ⟨own, hi, fun j oe hj => ⟨hj, h.g i own hi j oe hj⟩⟩⟩
  have := (h.b d x hd).2
  cases x with
  | cells cs own => exact ⟨rfl, fun j oe hj => ⟨hj, this j oe hj⟩⟩
  | map ks vs => exact ⟨rfl, rfl⟩
  | ref q => exact ⟨rfl, this⟩
theorem Inv.step' (h : Inv E L a w G) (hav : Av D L) (hS : Stp D w w' G G') : Inv E L a w' G' := h.step hav.sub hS
theorem okE.or {p : OP} {oe : OE} (h : okE D p oe) (h' : okE D' p oe) : okE (fun q => D q ∨ D' q) p oe := by
  cases oe with
  | al q π => exact h.elim .inl fun h => h'.elim .inl fun h' => .inr fun hq => hq.elim h h'
  | app e => exact fun hq => hq.elim h h'
  | ex e dp xs => exact fun hq => hq.elim h h'
  | sb q π lo sz n => exact fun hq => hq.elim h h'
theorem okS.or {sv : SV} (h : okS D sv) (h' : okS D' sv) : okS (fun q => D q ∨ D' q) sv := by
  cases sv <;> first | trivial | exact fun hq => hq.elim h h'
theorem Av.or (h : Av D L) (h' : Av D' L) : Av (fun q => D q ∨ D' q) L := by
  refine ⟨fun s sv own hs => ⟨(h.t s sv own hs).1.or (h'.t s sv own hs).1, fun j oe hj => ((h.t s sv own hs).2 j oe hj).or ((h'.t s sv own hs).2 j oe hj)⟩, fun d x hd => ⟨fun hq => hq.elim (fun q => q.elim (fun q => (h.b d x hd).1 (.inl q)) (fun q => (h'.b d x hd).1 (.inl q))) (fun q => q.elim (fun q => (h.b d x hd).1 (.inr q)) (fun q => (h'.b d x hd).1 (.inr q))), ?_⟩,
    fun i own hi j oe hj => (h.g i own hi j oe hj).or (h'.g i own hi j oe hj)⟩
  have h1 := (h.b d x hd).2
  have h2 := (h'.b d x hd).2
  cases x with
  | cells cs own => exact fun j oe hj => (h1 j oe hj).or (h2 j oe hj)
  | map ks vs => trivial
  | ref q => exact fun hq => hq.elim h1 h2
theorem okE.mono {p : OP} {oe : OE} (h : okE D p oe) (hD : ∀ q, D' q → D q) : okE D' p oe := by
  cases oe with
  | al q π => exact h.imp id fun h hq => h (hD _ hq)
  | app e => exact fun hq => h (hD _ hq)
  | ex e dp xs => exact fun hq => h (hD _ hq)
  | sb q π lo sz n => exact fun hq => h (hD _ hq)
theorem okS.mono {sv : SV} (h : okS D sv) (hD : ∀ q, D' q → D q) : okS D' sv := by
  cases sv <;> first | trivial | exact fun hq => h (hD _ hq)
theorem Av.mono (h : Av D L) (hD : ∀ q, D' q → D q) : Av D' L := by
  refine ⟨fun s sv own hs => ⟨(h.t s sv own hs).1.mono hD, fun j oe hj => ((h.t s sv own hs).2 j oe hj).mono hD⟩, fun d x hd => ⟨fun hq => (h.b d x hd).1 (hq.imp (hD _) (hD _)), ?_⟩, fun i own hi j oe hj => (h.g i own hi j oe hj).mono hD⟩
  have h1 := (h.b d x hd).2
  cases x with
  | cells cs own => exact fun j oe hj => (h1 j oe hj).mono hD
  | map ks vs => trivial
  | ref q => exact fun hq => h1 (hD _ hq)
theorem f_t {r : Ref} {s : Nat} {e : SV × OwnL} : (L.upd (.f r)).t s = some e ↔ L.t s = some e ∧ refsT r e = false := by
  simp only [Look.upd, Option.bind_eq_some_iff, dropT]
  constructor
  · rintro ⟨x, h1, h2⟩
    split at h2
    · cases h2
    · rename_i h3; cases h2; exact ⟨h1, h3⟩
  · rintro ⟨h1, h2⟩; exact ⟨e, h1, by rw [h2]⟩
theorem f_b {r : Ref} {s : Nat} {e : BX} : (L.upd (.f r)).b s = some e ↔ L.b s = some e ∧ refsB r e = false := by
  simp only [Look.upd, Option.bind_eq_some_iff, dropB]
  constructor
  · rintro ⟨x, h1, h2⟩
    split at h2
    · cases h2
    · rename_i h3; cases h2; exact ⟨h1, h3⟩
  · rintro ⟨h1, h2⟩; exact ⟨e, h1, by rw [h2]⟩
theorem f_g {r : Ref} {s : Nat} {e : OwnL} : (L.upd (.f r)).g s = some e ↔ L.g s = some e ∧ refsL r e = false := by
  simp only [Look.upd, Option.bind_eq_some_iff, dropG]
  constructor
  · rintro ⟨x, h1, h2⟩
    split at h2
    · cases h2
    · rename_i h3; cases h2; exact ⟨h1, h3⟩
  · rintro ⟨h1, h2⟩; exact ⟨e, h1, by rw [h2]⟩
theorem okE_false {p : OP} {oe : OE} : okE (fun _ => False) p oe := by
  cases oe with
  | al q π => exact .inr fun h => h
  | app e => exact fun h => h
  | ex e dp xs => exact fun h => h
  | sb q π lo sz n => exact fun h => h
theorem okS_false {sv : SV} : okS (fun _ => False) sv := by cases sv <;> first | trivial | exact fun h => h
theorem Sub.f (r : Ref) (L : Look) : Sub (fun _ => False) (L.upd (.f r)) L := by
  refine ⟨fun s sv own hs => ⟨own, (f_t.1 hs).1, okS_false, fun j oe hj => ⟨hj, okE_false⟩⟩, fun d x hd => ⟨fun h => h.elim id id, x, (f_b.1 hd).1, ?_⟩, fun i own hi => ⟨own, (f_g.1 hi).1, fun j oe hj => ⟨hj, okE_false⟩⟩⟩
  cases x with
  | cells cs own => exact ⟨rfl, fun j oe hj => ⟨hj, okE_false⟩⟩
  | map ks vs => exact ⟨rfl, rfl⟩
  | ref q => exact ⟨rfl, fun h => h⟩
theorem Inv.forget (h : Inv E L a w G) (r : Ref) : Inv E (L.upd (.f r)) a w G := h.less (Sub.f r L)
theorem Av.f (h : Av D L) (r : Ref) : Av D (L.upd (.f r)) :=
  ⟨fun s sv own hs => h.t s sv own (f_t.1 hs).1, fun d x hd => h.b d x (f_b.1 hd).1, fun i own hi => h.g i own (f_g.1 hi).1⟩
theorem Av.setT (h : Av D L) {s : Nat} {sv : SV} {own : OwnL} (h1 : okS D sv) (h2 : ∀ j oe, (j, oe) ∈ own → okE D (.t s j) oe) : Av D (L.upd (.t s (sv, own))) := by
  refine ⟨?_, h.b, h.g⟩
  intro k sv' own' hk
  by_cases e : k = s
  · subst e; simp only [Look.upd, if_pos] at hk; cases hk; exact ⟨h1, h2⟩
  · simp only [Look.upd, if_neg e] at hk; exact h.t k sv' own' hk
theorem Av.setB (h : Av D L) {s : Nat} {x : BX} (h1 : ¬ (D (.box s) ∨ D (.ptr s))) (h2 : okX D s x) : Av D (L.upd (.b s x)) := by
  refine ⟨h.t, ?_, h.g⟩
  intro k y hk
  by_cases e : k = s
  · subst e; simp only [Look.upd, if_pos] at hk; cases hk; exact ⟨h1, h2⟩
  · simp only [Look.upd, if_neg e] at hk; exact h.b k y hk
theorem Av.setG (h : Av D L) {s : Nat} {x : OwnL} (h2 : ∀ j oe, (j, oe) ∈ x → okE D (.a s j) oe) : Av D (L.upd (.g s x)) := by
  refine ⟨h.t, h.b, ?_⟩
  intro k y hk
  by_cases e : k = s
  · subst e; simp only [Look.upd, if_pos] at hk; cases hk; exact h2
  · simp only [Look.upd, if_neg e] at hk; exact h.g k y hk
theorem okE_al {r : Ref} {p q : OP} {π : Path} (h : OE.refs r (.al q π) = false) (hD : D (.own q) → DR r (.own q)) : okE D p (.al q π) := by
  cases hp : pinB q π with
  | true => exact .inl hp
  | false => refine .inr fun hq => ?_; simp [OE.refs, hp, (DR_inn (hD hq)).1, (DR_inn (hD hq)).2] at h
theorem okE_ref {r : Ref} {p : OP} {oe : OE} (h : oe.refs r = false) (hp : oe.owner = true → ¬ DR r (.own p)) : okE (DR r) p oe := by
  cases oe with
  | app e => exact hp rfl
  | ex e dp xs => exact hp rfl
  | al q π =>
    cases hp : pinB q π with
    | true => exact .inl hp
    | false => refine .inr fun hq => ?_; simp [OE.refs, hp, (DR_inn hq).1, (DR_inn hq).2] at h
  | sb q π lo sz n => intro hq; simp [OE.refs, (DR_inn hq).1, (DR_inn hq).2] at h
theorem okS_ref {r : Ref} {sv : SV} (h : sv.refs r = false) : okS (DR r) sv := by
  cases sv with
  | v x => trivial
  | ptr d off => intro hq; cases r <;> simp_all [DR, SV.refs]
  | mp d => intro hq; cases r <;> simp_all [DR, SV.refs]
  | el q π i sz off => intro hq; simp [SV.refs, (DR_inn hq).1, (DR_inn hq).2] at h
theorem Av.ref {r : Ref} (ht : ∀ s sv own, L.t s = some (sv, own) → refsT r (sv, own) = false → ∀ j oe, (j, oe) ∈ own → oe.owner = true → ¬ DR r (.own (.t s j)))
    (hb : ∀ d x, L.b d = some x → refsB r x = false → ¬ (DR r (.box d) ∨ DR r (.ptr d)) ∧ ∀ cs own, x = .cells cs own → ∀ j oe, (j, oe) ∈ own → oe.owner = true → ¬ DR r (.own (.b d j)))
    (hg : ∀ i own, L.g i = some own → refsL r own = false → ∀ j oe, (j, oe) ∈ own → oe.owner = true → ¬ DR r (.own (.a i j))) : Av (DR r) (L.upd (.f r)) := by
  refine ⟨?_, ?_, ?_⟩
  · intro s sv own hs
    obtain ⟨h1, h2⟩ := f_t.1 hs
    have h3 := h2
    simp only [refsT, Bool.or_eq_false_iff] at h3
    exact ⟨okS_ref h3.1, fun j oe hj => okE_ref (refsL_false h3.2 j oe hj) (ht s sv own h1 h2 j oe hj)⟩
  · intro d x hd
    obtain ⟨h1, h2⟩ := f_b.1 hd
    obtain ⟨h3, h4⟩ := hb d x h1 h2
    refine ⟨h3, ?_⟩
    cases x with
    | map ks vs => trivial
    | ref q => intro hq; cases r <;> simp_all [DR, refsB]
    | cells cs own => exact fun j oe hj => okE_ref (refsL_false h2 j oe hj) (h4 cs own rfl j oe hj)
  · intro i own hi j oe hj
    obtain ⟨h1, h2⟩ := f_g.1 hi
    exact okE_ref (refsL_false h2 j oe hj) (hg i own h1 h2 j oe hj)
theorem upd_t_same {s : Nat} {e : SV × OwnL} : (L.upd (.t s e)).t s = some e := by simp [Look.upd]
theorem upd_t_ne {s k : Nat} {e : SV × OwnL} (h : k ≠ s) : (L.upd (.t s e)).t k = L.t k := by simp [Look.upd, h]
theorem Av.clear (d : Nat) {y : AV} : Av (DR (.t d)) ((L.upd (.f (.t d))).upd (.t d (.v y, []))) := by
  -- forget first, or set first: the same
  have key : Av (DR (.t d)) ({ L with t := fun k => if k = d then none else L.t k }.upd (.f (.t d))) := by
    refine Av.ref ?_ ?_ ?_
    · intro s sv own hs _ j oe _ _ hd
      have : s = d := hd
      subst this
      simp at hs
    · intro k x _ _
      exact ⟨fun h => h.elim id id, fun cs own _ j oe _ _ h => h⟩
    · intro i own _ _ j oe _ _ h; exact h
  refine ⟨?_, fun k x hk => key.b k x hk, fun i own hi => key.g i own hi⟩
  intro s sv own hs
  by_cases e : s = d
  · subst e; rw [upd_t_same] at hs; cases hs; exact ⟨trivial, fun j oe hj => by cases hj⟩
  · rw [upd_t_ne e] at hs
    refine key.t s sv own (f_t.2 ?_)
    obtain ⟨h1, h2⟩ := f_t.1 hs
    exact ⟨by simp [e, h1], h2⟩
theorem Inv.fresh (h : Inv E L a w G) {d : Nat} (hd : d < E.n) : Inv E (L.upds (fresh d)) a w G ∧ Av (DR (.t d)) (L.upds (fresh d)) :=
  ⟨(h.forget (.t d)).setT' hd trivial (fun j oe hj => by cases hj), Av.clear d⟩
theorem Inv.clear (h : Inv E L a w G) {t : Nat} {y : AV} {own : OwnL} (ht : L.t t = some (.v y, own)) : Inv E ((L.upd (.f (.t t))).upd (.t t (.v y, []))) a w G ∧ Av (DR (.t t)) ((L.upd (.f (.t t))).upd (.t t (.v y, []))) :=
  ⟨(h.forget (.t t)).setT' (h.tm t _ _ ht).1 (h.tm t _ _ ht).2.1 (fun j oe hj => by cases hj), Av.clear t⟩
def LP.to (ρ : OP → OP) : LP → LP
  | .box d => .box d
  | .ptr d => .ptr d
  | .arg i j => .arg i j
  | .own p => .own (ρ p)
def Gho.hand (G : Gho) (ρ : OP → OP) (pv' : OP → Value) : Gho := { G with lab := fun b => (G.lab b).map (LP.to ρ), pv := pv' }
theorem Stp.hand (h : Inv E L a w G) {ρ : OP → OP} {pv' : OP → Value} (hρ : ∀ p, ¬ D (.own p) → ρ p = p) (hpv : ∀ p, ¬ D (.own p) → pv' p = G.pv p) (hpin : ∀ i j, pv' (.a i j) = G.pv (.a i j)) : Stp D w w G (G.hand ρ pv') := by
  refine ⟨rfl, rfl, rfl, Nat.le_refl _, ?_, Ext.refl _ _, fun b hb => (h.new b hb).2, ?_, ?_, fun _ _ => rfl, hpv, ⟨hpin, fun _ _ => rfl⟩⟩
  · intro b _ hb
    refine ⟨rfl, rfl, ?_⟩
    show (G.lab b).map (LP.to ρ) = G.lab b
    cases hl : G.lab b with
    | none => rfl
    | some p =>
      have := hb p hl
      cases p with
      | box d => rfl
      | ptr d => rfl
      | arg i j => rfl
      | own p => simp [LP.to, hρ p this]
  · intro b hb
    have := h.new b hb
    exact ⟨this.1, by simp [Gho.hand, this.2]⟩
  · intro b p hp
    simp only [Gho.hand, Option.map_eq_some_iff] at hp
    obtain ⟨q, hq, _⟩ := hp
    exact .inl ⟨q, hq⟩
theorem Own.hand {ρ : OP → OP} {pv' : OP → Value} {p q : OP} {oe : OE} {u : Value} (ho : Own P G w p oe u) (hw : oe.owner = true) (hq : ρ p = q) (hv : pv' q = u) : Own P (G.hand ρ pv') w q oe u := by
  have key : (G.pv p = u ∧ ∃ F, Rs P G.X w oe u F ∧ ∀ b ∈ F, G.lab b = some (.own p)) → ((G.hand ρ pv').pv q = u ∧ ∃ F, Rs P G.X w oe u F ∧ ∀ b ∈ F, (G.hand ρ pv').lab b = some (.own q)) := by
    rintro ⟨_, F, h2, h3⟩
    exact ⟨hv, F, h2, fun b hb => by simp [Gho.hand, h3 b hb, LP.to, hq]⟩
  cases oe with
  | app e => exact key ho
  | ex e dp xs => exact key ho
  | al q π => cases hw
  | sb q π lo sz n => cases hw
theorem Own.al_any {p q : OP} {oe : OE} {u : Value} (h : oe.owner = false) (ho : Own P G w p oe u) : Own P G w q oe u := by
  cases oe with
  | app e => cases h
  | ex e dp xs => cases h
  | al q π => exact ho
  | sb q π lo sz n => exact ho
theorem Own.pv {p : OP} {oe : OE} {u : Value} (ho : Own P G w p oe u) (hw : oe.owner = true) : G.pv p = u := by
  cases oe with
  | app e => exact ho.1
  | ex e dp xs => exact ho.1
  | al q π => cases hw
  | sb q π lo sz n => cases hw
end Go.Bv

namespace Go.Bv
open Go.RowKit
def nilOwn (P : Program) (ty : TypeId) (x : Operand) (own : OwnL) : OwnL :=
  match isNilC x with
  | true => (match elemP P ty with | some e => (match (sizeP P e).isSome with | true => [(0, .app e)] | false => []) | none => [])
  | false => own
def oMove (P : Program) (L : Look) (d : Nat) (ty : TypeId) (x : Operand) (h : Hint) : Ans :=
  match grab L x h.tk with
  | some (sv, own, pre) => match putT d sv (nilOwn P ty x own) with
    | some us => some (pre ++ us, [])
    | none => none
  | none => none
def oSeen (L : Look) (d : Nat) (x : Operand) : Ans :=
  match grab L x [] with
  | some (sv, own, _) => some ([.t d (sv, own)], [])
  | none => none
def oAlloc (P : Program) (d : Nat) (T : TypeId) : Ans :=
  match zeroP P T with
  | some zs => some ([.f (.bp d), .b d (.cells zs (zeroOwn P T)), .t d (.ptr d 0, [])], [])
  | none => none
def oBox (L : Look) (d : Nat) (x : Operand) (h : Hint) : Ans :=
  match grab L x h.tk with
  | some (.v a, own, pre) => match a.solid && !refsL (.bp d) own with
    | true => some (pre ++ [.f (.bp d), .b d (.cells a.cells own), .t d (.ptr d 0, [])], [])
    | false => none
  | _ => none
def placesOf (P : Program) : List Field → Option (List (Nat × Nat))
  | [] => some []
  | f :: fs => match sizeP P f.type, placesOf P fs with | some s, some r => some ((f.offset, s) :: r) | _, _ => none
def apart (pre : List Upd) (x : Operand) (d : Nat) (own : OwnL) : Bool :=
  match pre with
  | [] => true
  | _ => match x with | .tmp t => !refsL (.t t) own && !Nat.beq t d | _ => true
def buildC (ps : List (Nat × Nat)) (tk : List Nat) (d : Nat) : Look → List (Nat × Operand) → List AV → OwnL → Option (List AV × OwnL × List Upd)
  | _, [], cs, own => some (cs, own, [])
  | L, (i, x) :: r, cs, own => match ps[i]?, grab L x tk with
    | some (off, s), some (.v a, o', pre) => match a.solid && Nat.beq a.cells.length s && Nat.ble (off + s) cs.length && !refsL (.t d) o' && apart pre x d own with
      | true => match buildC ps tk d (L.upds pre) r (setAll cs off a.cells) (restO off s own ++ shiftO off o') with
        | some (cs', own', pre') => some (cs', own', pre ++ pre')
        | none => none
      | false => none
    | _, _ => none
def oBuild (P : Program) (L : Look) (d : Nat) (T : TypeId) (parts : List (Nat × Operand)) (h : Hint) : Ans :=
  match zeroP P T, P.underlying T with
  | some zs, some (.struct fs) => match placesOf P fs.toList with
    | some ps => match buildC ps h.tk d (L.upds (fresh d)) parts zs (zeroOwn P T) with
      | some (cs, own, pre) => some (fresh d ++ pre ++ [.t d (.v (.agg cs), own)], [])
      | none => none
    | none => none
  | _, _ => none
def anewC (h : Hint) (xs : List (List AV)) : List (List AV) × List Prop :=
  match h.c with
  | some ys => (ys, [xs = ys])
  | none => (xs, [])
def entOf (md : Nat) (e : TypeId) (xs : List (List AV)) : AV × OwnL :=
  match md with
  | 0 => (.sl xs, [(0, .app e)])
  | 1 => (.slx, [(0, .ex e false xs)])
  | _ => (.slx, [(0, .ex e true xs)])
def fillM (md : Nat) (own : OwnL) (cs : List AV) : Option (List AV) :=
  match md with
  | 0 => fillS own cs
  | 1 => fillS own cs
  | _ => fillD own 0 cs
def partsC (md : Nat) (tk : List Nat) (d s : Nat) : Look → Nat → List (Nat × Operand) → Option (List (List AV) × List Upd)
  | _, _, [] => some ([], [])
  | L, k, (i, x) :: r => match grab L x tk with
    | some (.v a, o', pre) => match Nat.beq i k && a.solid && Nat.beq a.cells.length s && apart pre x d [], fillM md o' a.cells with
      | true, some c => match partsC md tk d s (L.upds pre) (k + 1) r with
        | some (cs, pre') => some (c :: cs, pre ++ pre')
        | none => none
      | _, _ => none
    | _ => none
def oBuildSlice (P : Program) (L : Look) (d : Nat) (T : TypeId) (len : Nat) (parts : List (Nat × Operand)) (h : Hint) : Ans :=
  match elemP P T with
  | some e => match sizeP P e with
    | some s => match partsC h.md h.tk d s (L.upds (fresh d)) 0 parts with
      | some (as, pre) => match Nat.beq as.length len && Nat.blt 0 s && Nat.ble (len * s) 16777216 && (zeroP P e).isSome with
        | true => match anewC h as with
          | (xs, ob) => match entOf h.md e xs with
            | (v, own) => some (fresh d ++ pre ++ [.t d (.v v, own)], ob)
        | false => none
      | none => none
    | none => none
  | none => none
def alsOf (p : OP) (π : Path) (i sz off : Nat) : Nat → List AV → OwnL
  | _, [] => []
  | j, .slx :: cs => (j, .al p (π ++ [(i, sz, off + j)])) :: alsOf p π i sz off (j + 1) cs
  | j, _ :: cs => alsOf p π i sz off (j + 1) cs
def fitB (ag : Bool) (off s len : Nat) : Bool := Nat.ble (off + s) len && (ag || Nat.beq s 1)
def oLoad (P : Program) (L : Look) (d : Nat) (T : TypeId) (x : Operand) (h : Hint) : Ans :=
  match isAggP P T, sizeP P T, ev L x with
  | some ag, some s, some (.ptr k off, _) => match L.b k with
    | some (.cells cs own) => match fitB ag off s cs.length, ofCells ag (((cs.drop off).take s).map mask2) with
      | true, some v => match h.md with
        | 0 => some ([.t d (.v v, seen (fun j => .b k (off + j)) (cutO off s own))], [])
        | _ => match refsL (.b k) own || refsL (.t d) (cutO off s own) with
          | true => none
          | false => some ([.f (.b k), .b k (.cells cs (restO off s own))] ++ fresh d ++ [.t d (.v v, cutO off s own)], [])
      | _, _ => none
    | _ => none
  | some ag, some s, some (.v (.vptr cs), _) => match fitB ag 0 s s, ofCells ag (cs.take s) with
    | true, some v => one d v h [s ≤ cs.length]
    | _, _ => none
  | some ag, some s, some (.el p π i sz off, _) => match contAt L p π h, h.v with
    | some (dp, xs, ob), some v => match fitB ag 0 s s with
      | true => match dp with
        | true => some ([.t d (.v v, alsOf p π i sz off 0 v.cells)], ob ++ [∃ c, xs[i]? = some c ∧ c.length = sz ∧ off + s ≤ c.length ∧ ofCells ag (((c.drop off).take s).map mask1) = some v])
        | false => some ([.t d (.v v, [])], ob ++ [∃ c, xs[i]? = some c ∧ c.length = sz ∧ off + s ≤ c.length ∧ ofCells ag ((c.drop off).take s) = some v])
      | false => none
    | _, _ => none
  | _, _, _ => none
def oFieldAddr (P : Program) (L : Look) (d : Nat) (S : TypeId) (x : Operand) (f : Nat) : Ans :=
  match fieldP P S f, ev L x with
  | some (off, ft), some (sv, _) => match sizeP P ft with
    | some (_ + 1) => match sv with
      | .ptr k o => some ([.t d (.ptr k (o + off), [])], [])
      | .v (.vptr cs) => some ([.t d (.v (.vptr (cs.drop off)), [])], [])
      | .el p π i sz o => some ([.t d (.el p π i sz (o + off), [])], [])
      | _ => none
    | _ => none
  | _, _ => none
def oField (P : Program) (L : Look) (d : Nat) (S : TypeId) (x : Operand) (f : Nat) : Ans :=
  match fieldP P S f, x with
  | some (off, ft), .tmp t => match L.t t with
    | some (.v (.agg cs), own) => match sizeP P ft, isAggP P ft with
      | some s, some ag => match fitB ag off s cs.length, ofCells ag ((cs.drop off).take s) with
        | true, some v => some ([.t d (.v v, seen (fun j => .t t (off + j)) (cutO off s own))], [])
        | _, _ => none
      | _, _ => none
    | _ => none
  | _, _ => none
def oIndexAddr (P : Program) (L : Look) (d : Nat) (T : TypeId) (x i : Operand) (h : Hint) : Ans :=
  match elemP P T, evV L i with
  | some e, some (.int _ m) => match sizeP P e, sliceOf L x with
    | some s, some (.plain xs) => match h.v with
      | some (.vptr c) => some ([.t d (.v (.vptr c), [])], [0 ≤ m ∧ xs[m.toNat]? = some c ∧ c.length = s])
      | _ => none
    | some s, some (.held p π) => match contAt L p π h with
      | some (_, xs, ob) => some ([.t d (.el p π m.toNat s 0, [])], ob ++ [0 ≤ m ∧ ∃ c, xs[m.toNat]? = some c ∧ c.length = s])
      | none => none
    | some s, some (.part p π lo sz n) => match Nat.beq sz s with
      | true => some ([.t d (.el p π (lo + m.toNat) s 0, [])], [0 ≤ m ∧ m.toNat < n])
      | false => none
    | _, _ => none
  | _, _ => none
def oIndex (P : Program) (L : Look) (d : Nat) (T : TypeId) (x i : Operand) (h : Hint) : Ans :=
  match isStrP P T, evV L x, evV L i with
  | true, some (.str s), some (.int _ m) => one d (.int .u8 (bt s m)) h [0 ≤ m ∧ m.toNat < s.size]
  | _, _, _ => none
def cellsEq : List AV → List AV → Option Bool
  | [], [] => some true
  | .int k a :: cs, .int k' b :: ds => match decide (k = k'), cellsEq cs ds with | true, some r => some ((a == b) && r) | _, _ => none
  | .bool a :: cs, .bool b :: ds => match cellsEq cs ds with | some r => some ((a == b) && r) | _ => none
  | .str a :: cs, .str b :: ds => match cellsEq cs ds with | some r => some ((a.toList == b.toList) && r) | _ => none
  | _, _ => none
def oBin (P : Program) (L : Look) (d : Nat) (op : BinOp) (T : TypeId) (x y : Operand) (h : Hint) : Ans :=
  match evV L x, evV L y with
  | some (.int k a), some (.int k' b) => match op with
    | .quo => if k = k' then one d (.int k (k.wrap (a.tdiv b))) h [b ≠ 0] else none
    | .rem => if k = k' then one d (.int k (a.tmod b)) h [b ≠ 0] else none
    | .shl | .shr => none
    | op => if k = k' then (match binI op k a b with | some v => one d v h [] | none => none) else none
  | some (.str a), some (.str b) => match op with
    | .add => one d (.str (a ++ b)) h [sumOk a b]
    | op => match binS op a b with | some v => one d v h [] | none => none
  | some (.bool a), some (.bool b) => match op, P.underlying T with
    | .eql, some .bool => one d (.bool (a == b)) h []
    | .neq, some .bool => one d (.bool (!(a == b))) h []
    | _, _ => none
  | _, _ => none
def oUn (L : Look) (d : Nat) (op : UnOp) (x : Operand) (h : Hint) : Ans :=
  match op, evV L x with
  | .neg, some (.int k m) => one d (.int k (k.wrap (0 - m))) h []
  | .not, some (.bool b) => one d (.bool (!b)) h []
  | _, _ => none
def oConvert (P : Program) (L : Look) (d : Nat) (src dst : TypeId) (x : Operand) (h : Hint) : Ans :=
  match evV L x with
  | some (.int _ m) => match intOfP P dst, (P.underlying src).isSome with | some k, true => one d (.int k (k.wrap m)) h [] | _, _ => none
  | some (.str s) => match isStrP P dst && isStrP P src with | true => one d (.str s) h [] | false => none
  | _ => none
def sizesTo : List AV → Nat → Nat
  | _, 0 => 0
  | [], _ => 0
  | v :: vs, i + 1 => v.cells.length + sizesTo vs i
def oExtract (L : Look) (d : Nat) (x : Operand) (i : Nat) (h : Hint) : Ans :=
  match x with
  | .tmp t => match L.t t with
    | some (.v (.tup vs), own) => match vs[i]? with
      | some v => match v.solid, memN t h.tk, sizesTo vs i, v.cells.length with
        | true, false, lo, s => match (vs.take i).all AV.solid with
          | true => some ([.t d (.v v, seen (fun j => .t t (lo + j)) (cutO lo s own))], [])
          | false => none
        | true, true, lo, s => match refsL (.t t) own || refsL (.t d) (cutO lo s own) || Nat.beq t d || !(vs.take i).all AV.solid with
          | true => none
          | false => some ([.f (.t t), .t t (.v (.tup vs), restO lo s own)] ++ fresh d ++ [.t d (.v v, cutO lo s own)], [])
        | false, _, _, _ => match own with | [] => some ([.t d (.v v, [])], []) | _ => none
      | none => none
    | _ => none
  | _ => none
def oNil (L : Look) (d : Nat) (x : Operand) : Ans :=
  match ev L x with
  | some (.ptr k o, _) => some ([.t d (.ptr k o, [])], [])
  | some (.v (.vptr cs), _) => some ([.t d (.v (.vptr cs), [])], [])
  | some (.el p π i sz o, _) => some ([.t d (.el p π i sz o, [])], [])
  | _ => none
def zeroD (P : Program) (e : TypeId) : Option (List AV) :=
  match zeroP P e with
  | some zs => fillD (zeroOwn P e) 0 zs
  | none => none
def oMakeSlice (P : Program) (L : Look) (d : Nat) (T : TypeId) (l c : Operand) (h : Hint) : Ans :=
  match elemP P T, evV L l, evV L c with
  | some e, some (.int _ m), some (.int _ m') => match sizeP P e, zeroD P e, bytesP P e with
    | some s, some zs, some by' => match Nat.beq zs.length s && Nat.blt 0 s && Nat.ble by' 4096 with
      | true => match anewC h (List.replicate m.toNat zs) with
        | (xs, ob) => some (fresh d ++ [.t d (.v .slx, [(0, .ex e true xs)])], ob ++ [0 ≤ m ∧ m' = m ∧ m ≤ 1073741824])
      | false => none
    | _, _, _ => none
  | _, _, _ => none
def oSlice (P : Program) (L : Look) (d : Nat) (T : TypeId) (x : Operand) (lo hi : Option Operand) (h : Hint) : Ans :=
  match optInt L lo, optInt L hi with
  | some l, some hh => match evV L x with
    | some (.str s) => match isStrP P T with
      | true => one d (.str (s.extract (l.getD 0).toNat (hh.getD s.size).toNat)) h [0 ≤ l.getD 0 ∧ l.getD 0 ≤ hh.getD s.size ∧ hh.getD s.size ≤ s.size]
      | false => none
    | _ => match elemP P T with
      | some e => match sizeP P e, sliceOf L x with
        | some s, some (.plain xs) => match h.v with
          | some v => some ([.t d (.v v, [])], [0 ≤ l.getD 0 ∧ l.getD 0 ≤ hh.getD xs.length ∧ hh.getD xs.length ≤ xs.length ∧ (∀ c ∈ xs, c.length = s) ∧ AV.sl ((xs.take (hh.getD xs.length).toNat).drop (l.getD 0).toNat) = v])
          | none => some ([.t d (.v (.sl ((xs.take (hh.getD xs.length).toNat).drop (l.getD 0).toNat)), [])], [0 ≤ l.getD 0 ∧ l.getD 0 ≤ hh.getD xs.length ∧ hh.getD xs.length ≤ xs.length ∧ ∀ c ∈ xs, c.length = s])
        | some s, some (.held p π) => match x with
          | .tmp t => match memN t h.tk, L.t t, l, hh with
            | true, some (.v .slx, [(0, .ex e' dp xs)]), none, some m => match Nat.beq e e' && !Nat.beq e anyT, anewC h (xs.take m.toNat) with
              | true, (ys, ob) => some ([.f (.t t), .t t (.v .slx, [])] ++ fresh d ++ [.t d (.v .slx, [(0, .ex e dp ys)])], ob ++ [0 ≤ m ∧ m ≤ (xs.length : Int)])
              | false, _ => none
            | false, _, _, _ => match contAt L p π h with
              | some (_, xs, ob) => some ([.t d (.v .slx, [(0, .sb p π (l.getD 0).toNat s ((hh.getD xs.length).toNat - (l.getD 0).toNat))])], ob ++ [0 ≤ l.getD 0 ∧ l.getD 0 ≤ hh.getD xs.length ∧ hh.getD xs.length ≤ xs.length])
              | none => none
            | _, _, _, _ => none
          | _ => none
        | _, _ => none
      | none => none
  | _, _ => none
def oMakeFunc (L : Look) (d : Nat) (fn : Fn) (first captured : List Operand) : Ans :=
  match fn, first, evVs L captured with
  | .func f, [], some caps => some ([.t d (.v (.func f caps), [])], [])
  | _, _, _ => none
def lenOf (L : Look) (x : Operand) (h : Hint) : Option (Nat × List Prop) :=
  match sliceOf L x with
  | some (.plain xs) => some (xs.length, [])
  | some (.held p π) => match contAt L p π h with | some (_, xs, ob) => some (xs.length, ob) | none => none
  | some (.part _ _ _ _ n) => some (n, [])
  | none => none
def oBuiltin (P : Program) (L : Look) (d : Nat) (b : Builtin) (args : List Operand) (tys : List TypeId) (h : Hint) : Ans :=
  match b, args, tys with
  | .len, [x], [t] => match P.underlying t with
    | some (.slice _) => match lenOf L x h with | some (n, ob) => one d (.int .i64 n) h ob | none => none
    | some .string => match evV L x with | some (.str s) => one d (.int .i64 s.size) h [] | _ => none
    | _ => none
  | .max, [x, y], _ => match evV L x, evV L y with | some (.int k a), some (.int k' b) => if k = k' then one d (.int k (if b > a then b else a)) h [] else none | _, _ => none
  | .min, [x, y], _ => match evV L x, evV L y with | some (.int k a), some (.int k' b) => if k = k' then one d (.int k (if b < a then b else a)) h [] else none | _, _ => none
  | _, _, _ => none
end Go.Bv

namespace Go.Bv
open Go.RowKit
variable {P : Program} {w w' : World} {a : Act} {o : Oper} {K : Act → World → Prop} {Q : Exit → Act → World → Prop}
theorem upon_val {v : Value} (h : (execOp a.eval o).run P w = .ok (.value v) w') (hk : K (a.put o.dst v) w') : o.wp P a w K Q := by
  unfold Oper.wp; rw [h]; exact hk
theorem avConst_rel {X : Gh} : ∀ {v : Value} {x : AV}, avConst v = some x → Rel X w x v := by
  intro v x h
  unfold avConst at h
  split at h <;> first | (cases h; done) | (cases h; first | rfl | trivial | skip)
  exact ⟨none, 0, 0, rfl, rfl, Nat.le_refl _, .inl rfl⟩
theorem avConsts_rel {X : Gh} : ∀ {vs : List Value} {xs : List AV}, avConsts vs = some xs → RelL X w xs vs
  | [], xs, h => by simp [avConsts] at h; subst h; rfl
  | v :: vs, xs, h => by
    simp only [avConsts] at h
    split at h
    · rename_i x xs' hx hxs
      cases h
      exact ⟨v, vs, rfl, avConst_rel hx, avConsts_rel hxs⟩
    · cases h
theorem lt_of_blt {d n : Nat} (h : Nat.blt d n = true) : d < n := by
  simp [Nat.blt] at h; omega
theorem run_und {t : TypeId} {dsc : TypeDesc} (h : P.underlying t = some dsc) : (underlying t).run P w = .ok dsc w := by
  simp [underlying, program, Sem.run, h]
theorem run_guard_int (op : BinOp) (T : TypeId) (x y : Operand) (k k' : IntKind) (m m' : Int) : (eqGuard op T x y (.int k m) (.int k' m')).run P w = .ok () w := by
  unfold eqGuard; cases op <;> simp
theorem run_guard_str (op : BinOp) (T : TypeId) (x y : Operand) (m m' : ByteArray) : (eqGuard op T x y (.string m) (.string m')).run P w = .ok () w := by
  unfold eqGuard; cases op <;> simp
theorem run_guard_bool (op : BinOp) (T : TypeId) (x y : Operand) (m m' : Bool) : (eqGuard op T x y (.bool m) (.bool m')).run P w = .ok () w := by
  unfold eqGuard; cases op <;> simp
theorem run_binI {X : Gh} {op : BinOp} {T : TypeId} {k : IntKind} {x y : Int} {v : AV} (h : binI op k x y = some v) (h1 : op ≠ .quo) (h2 : op ≠ .rem) (h3 : op ≠ .shl) (h4 : op ≠ .shr) :
    ∃ u, (binOp op T (.int k x) (.int k y)).run P w = .ok u w ∧ Rel X w v u := by
  cases op <;> simp [binI] at h <;> subst h <;> first | (exact absurd rfl h1) | (exact absurd rfl h2) | (exact absurd rfl h3) | (exact absurd rfl h4) | (refine ⟨_, ?_, rfl⟩; simp [binOp, Op.intArith, Op.intCmp])
theorem run_binS {X : Gh} {op : BinOp} {T : TypeId} {x y : ByteArray} {v : AV} (h : binS op x y = some v) : ∃ u, (binOp op T (.string x) (.string y)).run P w = .ok u w ∧ Rel X w v u := by
  cases op <;> simp [binS] at h <;> subst h <;> (refine ⟨_, ?_, rfl⟩; simp [binOp, Op.stringOp])
theorem run_equal_bool {T : TypeId} {x y : Bool} (hT : P.underlying T = some .bool) : (Op.equal T (.bool x) (.bool y)).run P w = .ok (x == y) w := by
  unfold Op.equal
  rw [show Op.maxDepth = 9999 + 1 from rfl, Op.equalIn]
  simp [run_und hT]
theorem run_eql_bool {T : TypeId} {x y : Bool} (hT : P.underlying T = some .bool) : (binOp .eql T (.bool x) (.bool y)).run P w = .ok (.bool (x == y)) w := by
  simp only [binOp, Sem.run_bind, run_equal_bool hT, Result.andThen_ok]
  rfl
theorem run_neq_bool {T : TypeId} {x y : Bool} (hT : P.underlying T = some .bool) : (binOp .neq T (.bool x) (.bool y)).run P w = .ok (.bool (!(x == y))) w := by
  simp only [binOp, Sem.run_bind, run_equal_bool hT, Result.andThen_ok]
  rfl
theorem run_isAgg {t : TypeId} {ag : Bool} (h : isAggP P t = some ag) : (isAgg t).run P w = .ok ag w := by
  unfold isAggP at h
  cases hu : P.underlying t with
  | none => simp [hu] at h
  | some ds =>
    simp [hu] at h
    subst h
    cases ds <;> simp [isAgg, run_und hu]
theorem run_sizeOf {t : TypeId} {s : Nat} (h : sizeP P t = some s) : (sizeOf t).run P w = .ok s w := by
  unfold sizeP at h
  cases hu : P.info? t with
  | none => simp [hu] at h
  | some i => simp [hu] at h; subst h; simp [sizeOf, typeInfo, program, Sem.run, hu]
def CellsAt (w : World) (b o : Nat) (us : List Value) : Prop := ∀ j u, us[j]? = some u → w.cell? ⟨b, o + j, none⟩ = some u
theorem run_loadVar {T : TypeId} {ag : Bool} {s b o : Nat} {us : List Value} (hag : isAggP P T = some ag) (hs : sizeP P T = some s) (hl : us.length = s) (hc : CellsAt w b o us) (h1 : ag = true ∨ s = 1) :
    ∃ u, (loadVar T ⟨b, o, none⟩).run P w = .ok u w ∧ (if ag then u = .agg us.toArray else us = [u]) := by
  cases ag with
  | true =>
    refine ⟨.agg us.toArray, ?_, rfl⟩
    have hr := run_loadCells_list (P := P) w ⟨b, o, none⟩ us (fun j u hj => by rw [add_lit]; exact hc j u hj)
    rw [hl] at hr
    simp [loadVar, run_isAgg hag, run_sizeOf hs, hr]
  | false =>
    have : s = 1 := by simpa using h1
    subst this
    match us, hl with
    | [u], _ =>
      refine ⟨u, ?_, rfl⟩
      have h0 := hc 0 u rfl
      simp at h0
      simp [loadVar, run_isAgg hag, load, Sem.run, h0]
theorem rel_ofCells {X : Gh} {ag : Bool} {cs : List AV} {us : List Value} {v : AV} {u : Value} (ho : ofCells ag cs = some v) (hr : RelL X w cs us) (hu : if ag then u = .agg us.toArray else us = [u]) : Rel X w v u := by
  cases ag with
  | true => simp [ofCells] at ho; subst ho; simp at hu; exact ⟨us, hu, hr⟩
  | false =>
    unfold ofCells at ho
    simp at ho
    split at ho
    · cases ho
      simp at hu
      subst hu
      obtain ⟨u', r', e, h1, h2⟩ := hr
      cases e; exact h1
    · cases ho
theorem relC_cells {X : Gh} : ∀ {cs : List AV} {b o : Nat}, RelC X w b o cs → ∃ us, RelL X w cs us ∧ us.length = cs.length ∧ CellsAt w b o us
  | [], b, o, _ => ⟨[], rfl, rfl, fun j u hj => by simp at hj⟩
  | c :: cs, b, o, ⟨⟨u, hc, hk, hr⟩, q⟩ => by
    obtain ⟨us, h1, h2, h3⟩ := relC_cells q
    refine ⟨u :: us, ⟨u, us, rfl, hr, h1⟩, by simp [h2], ?_⟩
    intro j v hj
    cases j with
    | zero => simp at hj; subst hj; exact hc
    | succ j =>
      have := h3 j v (by simpa using hj)
      rwa [show o + 1 + j = o + (j + 1) by omega] at this
theorem ofCells_some {ag : Bool} {cs : List AV} {v : AV} (h : ofCells ag cs = some v) : ag = true ∨ cs.length = 1 := by
  cases ag with
  | true => exact .inl rfl
  | false =>
    unfold ofCells at h
    simp at h
    split at h
    · exact .inr rfl
    · cases h
theorem fieldP_spec {S : TypeId} {f off : Nat} {ft : TypeId} (h : fieldP P S f = some (off, ft)) : ∃ fs fd, P.underlying S = some (.struct fs) ∧ fs[f]? = some fd ∧ fd.offset = off ∧ fd.type = ft := by
  unfold fieldP at h
  split at h
  · rename_i fs hu
    simp only [Option.map_eq_some_iff] at h
    obtain ⟨fd, h1, h2⟩ := h
    cases h2
    exact ⟨fs, fd, hu, h1, rfl, rfl⟩
  · cases h
theorem run_fieldAt {S : TypeId} {f off b x : Nat} {ft : TypeId} {m : Nat} (h : fieldP P S f = some (off, ft)) (hs : sizeP P ft = some (m + 1)) :
    (Instr.fieldAt S (.pointer (some ⟨b, x, none⟩)) f).run P w = .ok (.pointer (some ⟨b, x + off, none⟩)) w := by
  obtain ⟨fs, fd, h1, h2, rfl, rfl⟩ := fieldP_spec h
  simp [Instr.fieldAt, run_und h1, h2, Instr.sureAddr, fieldPlace, run_sizeOf hs, add_lit]
theorem run_part {T : TypeId} {ag : Bool} {s off : Nat} {us : List Value} (hag : isAggP P T = some ag) (hs : sizeP P T = some s) (hl : off + s ≤ us.length) (h1 : ag = true ∨ s = 1) :
    ∃ u, (part T us.toArray off).run P w = .ok u w ∧ (if ag then u = .agg ((us.drop off).take s).toArray else (us.drop off).take s = [u]) := by
  cases ag with
  | true =>
    refine ⟨_, ?_, rfl⟩
    simp only [part, Sem.run_bind, run_isAgg hag, Result.andThen_ok, if_true, run_sizeOf hs]
    simp
  | false =>
    have : s = 1 := by simpa using h1
    subst this
    have hlt : off < us.length := by omega
    refine ⟨us[off], ?_, ?_⟩
    · simp [part, run_isAgg hag, hlt]
    · simp only [Bool.false_eq_true, if_false]
      have e := List.drop_eq_getElem_cons hlt
      rw [e]; rfl
theorem elemP_spec {T e : TypeId} (h : elemP P T = some e) : P.underlying T = some (.slice e) := by
  unfold elemP at h
  split at h
  · cases h; assumption
  · cases h
theorem run_callFunc {f : Nat} {args : Array Value} (h : ((P.funcs[f]?).map fun fn => fn.body.isSome && fn.name != "runtime.NumGoroutine") = some true) : (callFunc f args).run P w = .ok (.enter f args) w := by
  simp only [Option.map_eq_some_iff] at h
  obtain ⟨fn, hf, hb⟩ := h
  simp only [Bool.and_eq_true, bne_iff_ne, ne_eq] at hb
  obtain ⟨b, hc⟩ := Option.isSome_iff_exists.1 hb.1
  simp [callFunc, program, Sem.run, hf, hb.2, hc]
theorem setAll_length {α : Type} : ∀ (vs us : List α) (off : Nat), (setAll us off vs).length = us.length
  | [], us, off => rfl
  | v :: vs, us, off => by rw [setAll, setAll_length vs]; simp
theorem setAll_eq {α : Type} : ∀ (vs us : List α) (off : Nat), off + vs.length ≤ us.length → setAll us off vs = us.take off ++ vs ++ us.drop (off + vs.length)
  | [], us, off, h => by simp [setAll]
  | v :: vs, us, off, h => by
    simp only [List.length_cons] at h
    rw [setAll, setAll_eq vs _ _ (by simp; omega)]
    have h1 : (us.set off v).take (off + 1) = us.take off ++ [v] := by
      rw [List.take_set, List.take_succ_eq_append_getElem (by omega), List.set_append]
      simp [Nat.min_eq_left (show off ≤ us.length by omega)]
    have h2 : (us.set off v).drop (off + 1 + vs.length) = us.drop (off + (vs.length + 1)) := by
      rw [List.drop_set]
      simp [show off < off + 1 + vs.length by omega]
      congr 1; omega
    rw [h1, h2]; simp [List.append_assoc]
theorem RelL.setAll {X : Gh} : ∀ {new : List AV} {vnew : List Value} {cs : List AV} {us : List Value} (off : Nat), RelL X w new vnew → RelL X w cs us → RelL X w (setAll cs off new) (setAll us off vnew)
  | [], vnew, cs, us, off, h1, h2 => by rw [show vnew = [] from h1]; exact h2
  | c :: new, vnew, cs, us, off, ⟨u, r, e, h1, h3⟩, h2 => by
    rw [e]; exact RelL.setAll (off + 1) h3 (h2.set off h1)
theorem foldl_setAll (off : Nat) : ∀ (vs : List Value) (k : Nat) (cells : Array Value),
    ((vs.zipIdx k).foldl (fun cs (x : Value × Nat) => cs.setIfInBounds (off + x.2) x.1) cells).toList = setAll cells.toList (off + k) vs
  | [], k, cells => rfl
  | v :: vs, k, cells => by
    rw [List.zipIdx_cons, List.foldl_cons, foldl_setAll off vs (k + 1)]
    simp only [Array.toList_setIfInBounds, setAll]
    rw [Nat.add_assoc]
theorem fill_cons {place : Nat → Option (Nat × Nat)} {cells : Array Value} {i off size : Nat} {v : Value} {rest : List (Nat × Value)} (hp : place i = some (off, size)) (hs : v.cells.size = size)
    (hf : off + size ≤ cells.size) : Instr.fill place cells ((i, v) :: rest) = Instr.fill place (setAll cells.toList off v.cells.toList).toArray rest := by
  have h1 : ¬ (off + v.cells.size > cells.size) := by omega
  simp only [Instr.fill, hp, hs, ne_eq, not_true_eq_false, decide_false, Bool.false_or, decide_eq_true_eq, hs ▸ h1, if_false, Bool.false_eq_true]
  congr 1
  apply Array.ext'
  have := foldl_setAll off v.cells.toList 0 cells
  rw [Nat.add_zero] at this
  rw [← this, ← Array.foldl_toList]
  simp
theorem zeroP_spec {T : TypeId} {zs : List AV} (h : zeroP P T = some zs) : ∃ i z, P.info? T = some i ∧ i.zero = some z ∧ avConsts z.cells.toList = some zs := by
  unfold zeroP at h
  simp only [Option.bind_eq_some_iff] at h
  obtain ⟨i, hi, z, hz, h⟩ := h
  exact ⟨i, z, hi, hz, h⟩
theorem run_zeroValue {T : TypeId} {i : TypeInfo} {z : Value} (hi : P.info? T = some i) (hz : i.zero = some z) : (zeroValue T).run P w = .ok z w := by
  simp [zeroValue, typeInfo, program, Sem.run, hi, hz]
theorem run_places : ∀ (fs : List Field) (ps : List (Nat × Nat)), placesOf P fs = some ps → (fs.mapM fun f => do pure (f.offset, ← sizeOf f.type) : Sem (List (Nat × Nat))).run P w = .ok ps w
  | [], ps, h => by simp [placesOf] at h; subst h; simp
  | f :: fs, ps, h => by
    simp only [placesOf] at h
    split at h
    · rename_i s r hs hr
      cases h
      have := run_places fs r hr
      simp only [List.mapM_cons, Sem.run_bind, run_sizeOf hs, Result.andThen_ok, Sem.run_pure, this]
    · cases h
theorem made_list (z : Array Value) : ∀ m : Nat, (madeCells z (m * z.size)).toList = (List.replicate m z.toList).flatten
  | 0 => by simp [madeCells]
  | m + 1 => by
    have ih := made_list z m
    have e : (m + 1) * z.size = m * z.size + z.size := by rw [Nat.add_mul]; omega
    rw [List.replicate_succ', List.flatten_append, ← ih, e]
    simp only [madeCells]
    rw [Array.range_add]
    simp only [Array.map_append, Array.toList_append]
    congr 1
    simp only [List.flatten_cons, List.flatten_nil, List.append_nil]
    apply List.ext_getElem
    · simp
    · intro i h1 h2
      have h2' : i < z.size := by simpa using h2
      have : (m * z.size + i) % z.size = i := by
        rw [Nat.mul_comm, Nat.mul_add_mod, Nat.mod_eq_of_lt h2']
      simp [this, h2']
theorem run_bound {k : IntKind} {m : Int} {y : Nat} {c : BoundsCode} (h0 : 0 ≤ m) (h1 : m ≤ (y : Int)) : (Instr.sliceBound (.int k m) y c).run P w = .ok m.toNat w := by
  simp [Instr.sliceBound, asIntOf, h0, h1]
theorem leaf_one {X : Gh} {c : AV} {u : Value} (h : Rel X w c u) (hl : c.leaf = true) : u.oneCell' = true := by
  cases c with
  | int k m => rw [show u = _ from h]; rfl
  | bool b => rw [show u = _ from h]; rfl
  | str s => rw [show u = _ from h]; rfl
  | agg cs => cases hl
  | tup cs => cases hl
  | sl xs => obtain ⟨A, len, cap, e, _⟩ := h; rw [e]; rfl
  | vptr cs => obtain ⟨b, f, e, _⟩ := h; rw [e]; rfl
  | func f cs => obtain ⟨us, e, _⟩ := h; rw [e]; rfl
  | mp ks vs => obtain ⟨r, es, k, e, _⟩ := h; rw [e]; rfl
  | slx => obtain ⟨A, len, cap, e⟩ := h; rw [e]; rfl
  | raw _ => obtain ⟨_, A, len, cap, e⟩ := h; rw [e]; rfl
  | undef => cases hl
theorem leaf_all {X : Gh} : ∀ {cs : List AV} {us : List Value}, RelL X w cs us → cs.all AV.leaf = true → ∀ v ∈ us, v.oneCell' = true
  | [], us, h, _, v, hv => by rw [show us = [] from h] at hv; cases hv
  | c :: cs, us, ⟨u, r, e, h1, h2⟩, hl, v, hv => by
    subst e
    simp only [List.all_cons, Bool.and_eq_true] at hl
    rcases List.mem_cons.1 hv with rfl | hv
    · exact leaf_one h1 hl.1
    · exact leaf_all h2 hl.2 v hv
theorem modify_flatten (f : List AV → List AV) : ∀ (rows : List (List AV)) (i : Nat) (c : List AV) (sz off : Nat) (new : List AV), (∀ c ∈ rows, c.length = sz) → rows[i]? = some c → off + new.length ≤ sz →
    (rows.modify i fun c => setAll c off new).flatten = setAll rows.flatten (i * sz + off) new
  | [], i, c, sz, off, new, _, h, _ => by simp at h
  | r :: rows, 0, c, sz, off, new, hl, h, hf => by
    simp at h; subst h
    have hr : r.length = sz := hl r (by simp)
    rw [show List.modify (r :: rows) 0 (fun c => setAll c off new) = setAll r off new :: rows from rfl]
    rw [List.flatten_cons, List.flatten_cons, setAll_eq _ _ _ (by omega), setAll_eq _ _ _ (by simp; omega)]
    simp only [Nat.zero_mul, Nat.zero_add]
    rw [List.take_append_of_le_length (by omega), List.drop_append_of_le_length (by omega)]
    simp [List.append_assoc]
  | r :: rows, i + 1, c, sz, off, new, hl, h, hf => by
    have hr : r.length = sz := hl r (by simp)
    have ih := modify_flatten f rows i c sz off new (fun c h => hl c (by simp [h])) (by simpa using h) hf
    rw [show List.modify (r :: rows) (i + 1) (fun c => setAll c off new) = r :: rows.modify i (fun c => setAll c off new) from rfl]
    rw [List.flatten_cons, List.flatten_cons, ih]
    have hlen : (rows.flatten).length = rows.length * sz := by
      clear ih h
      induction rows with
      | nil => simp
      | cons x xs ih2 => simp only [List.flatten_cons, List.length_append, List.length_cons]; rw [hl x (by simp), ih2 (fun c hc => by
          rcases List.mem_cons.1 hc with rfl | hc
          · exact hl _ (by simp)
          · exact hl c (by simp [hc]))]; rw [Nat.add_mul]; omega
    have hi : i < rows.length := (List.getElem?_eq_some_iff.1 (by simpa using h)).1
    have hb : i * sz + sz ≤ rows.length * sz := by
      have := Nat.mul_le_mul_right sz (show i + 1 ≤ rows.length from hi)
      rwa [Nat.add_mul, Nat.one_mul] at this
    have e : (i + 1) * sz + off = r.length + (i * sz + off) := by rw [Nat.add_mul, hr]; omega
    rw [e, setAll_eq _ _ _ (by rw [hlen]; omega), setAll_eq _ _ _ (by rw [List.length_append, hlen]; omega)]
    rw [List.take_length_add_append, show r.length + (i * sz + off) + new.length = r.length + (i * sz + off + new.length) by omega, List.drop_length_add_append]
    simp [List.append_assoc]
theorem run_storeAt {T : TypeId} {s : Nat} {A : Addr} {v : Value} (hs : sizeP P T = some s) (hv : v.cells.size = s) : (Instr.storeAt T (.pointer (some A)) v).run P w = (storeCells A v.cells.toList).run P w := by
  simp [Instr.storeAt, Instr.sureAddr, storeVar, run_sizeOf hs, hv]
theorem relE_cells {X : Gh} {sz b : Nat} : ∀ {xs : List (List AV)} {o : Nat}, RelE X w sz b o xs → ∃ us, RelL X w xs.flatten us ∧ us.length = xs.length * sz ∧ CellsAt w b o us ∧ ∀ j, j < xs.length * sz → okc X b (o + j)
  | [], o, _ => ⟨[], rfl, by simp, fun j u hj => by simp at hj, fun j hj => by simp at hj⟩
  | c :: xs, o, ⟨h1, h2, h3⟩ => by
    obtain ⟨us1, r1, l1, c1⟩ := relC_cells h2
    obtain ⟨us2, r2, l2, c2, k2⟩ := relE_cells h3
    have hlen : (c :: xs).length * sz = sz + xs.length * sz := by simp [Nat.add_mul]; omega
    refine ⟨us1 ++ us2, by rw [List.flatten_cons]; exact r1.append r2, by rw [List.length_append, l1, l2, hlen, h1], ?_, ?_⟩
    · intro j u hj
      by_cases hlt : j < us1.length
      · rw [List.getElem?_append_left hlt] at hj; exact c1 j u hj
      · rw [List.getElem?_append_right (by omega)] at hj
        have := c2 _ u hj
        rw [show o + sz + (j - us1.length) = o + j by omega] at this; exact this
    · intro j hj
      rw [hlen] at hj
      by_cases hlt : j < sz
      · have g : c[j]? = some (c[j]'(by omega)) := by simp [show j < c.length by omega]
        obtain ⟨u, _, hk, _⟩ := h2.get j g
        exact hk
      · have := k2 (j - sz) (by omega)
        rwa [show o + sz + (j - sz) = o + j by omega] at this
theorem all_flatten {xs : List (List AV)} (h : ∀ c ∈ xs, c.all AV.leaf = true) : xs.flatten.all AV.leaf = true := by
  rw [List.all_eq_true]
  intro x hx
  obtain ⟨c, hc, hxc⟩ := List.mem_flatten.1 hx
  exact List.all_eq_true.1 (h c hc) x hxc
theorem run_append_at (base : Nat) (t ty e : TypeId) (i : TypeInfo) (z : Value) (size bytes : Nat) (ht : P.underlying t = some (.slice e)) (hi : P.info? e = some i) (hz : i.zero = some z)
    (hsize : i.size = size) (hby : i.bytes = bytes) (hzs : z.cells.size = size) (hsz : 0 < size)
    (v : Value) (m0 : Nat) (xs : List Value) (hown : w.ownsRow base e size v m0 xs)
    (x : Addr) (m c : Nat) (news : List Value) (hl : news.length = m * size) (hnews : ∀ j u, news[j]? = some u → w.cell? (x.add j) = some u) (h1 : ∀ u ∈ news, u.oneCell' = true)
    (h63 : m0 + m ≤ maxLen) (hbytes : (m0 + m) * bytes ≤ 140737488355328) (hbase : base ≤ w.heap.size) :
    ∃ v' w', (Builtin.append_ #[t, t] ty #[v, .slice (some x) m c]).run P w = .ok v' w' ∧ w'.ownsRow base e size v' (m0 + m) (xs ++ news) ∧ w.grownBy w' v.ownBlock ∧
      (v'.ownBlock = v.ownBlock ∨ ∃ b, v'.ownBlock = some b ∧ w.heap.size ≤ b ∧ w.grownBy w' none) := by
  obtain ⟨v', w', hr, ho, hg, _⟩ := run_append_own (P := P) (w := w) base t ty e i z size bytes ht hi hz hsize hby hzs hsz v m0 xs hown x m c news hl hnews h1 h63 hbytes hbase
  refine ⟨v', w', hr, ho, hg, ?_⟩
  have hsmall : m0 + m ≤ 9223372036854775807 := by simp only [maxLen] at h63; omega
  subst hsize
  subst hby
  rcases hown.2 with ⟨rfl, rfl⟩ | ⟨g, cap, cur, rfl, hbg, hgc, hnc, hcm, hcs, htake⟩
  · by_cases hm : m = 0
    · subst hm
      have hn : news = [] := List.eq_nil_of_length_eq_zero (by simpa using hl)
      subst hn
      have : (Builtin.append_ #[t, t] ty #[.slice none 0 0, .slice (some x) 0 c]).run P w = .ok (.slice none 0 0) w := by
        simp [Builtin.append_, run_underlying ht, sizeOf, typeInfo, hi, Builtin.lenOf, Builtin.firstCells, loadCells, loadCellsFrom]
      rw [this] at hr
      cases hr
      exact .inl rfl
    · have hr2 := run_append_nil (P := P) w t ty e i z ht hi hz x m c news hl hnews (by omega) (by omega) (by have hb := hbytes; simp only [Nat.zero_add] at hb; omega)
      rw [hr2] at hr
      cases hr
      exact .inr ⟨_, rfl, Nat.le_refl _, ⟨rfl, rfl, rfl, by simp, fun k hk _ => by rw [Below.heap_alloc w.drew _ k hk]; rfl⟩⟩
  · by_cases hroom : m0 + m ≤ cap
    · have hfit : m0 * i.size + news.length ≤ cur.size := by rw [hl, hcs, ← Nat.add_mul]; exact Nat.mul_le_mul_right _ hroom
      have hr2 := run_append_room (P := P) w t ty e i ht hi g m0 cap cur hgc x m c news hl hnews h1 hroom hfit
      rw [hr2] at hr
      cases hr
      exact .inl rfl
    · have holds : ∀ j u, xs[j]? = some u → w.cell? ((⟨g, 0, none⟩ : Addr).add j) = some u := hown.cells (g := g) rfl
      have hr2 := run_append_grow (P := P) w t ty e i z ht hi hz ⟨g, 0, none⟩ m0 cap xs hown.1 holds x m c news hl hnews (by omega) (by omega) (growslice_fits (by omega) hbytes)
      rw [hr2] at hr
      cases hr
      exact .inr ⟨_, rfl, Nat.le_refl _, ⟨rfl, rfl, rfl, by simp, fun k hk _ => by rw [Below.heap_alloc w.drew _ k hk]; rfl⟩⟩
theorem beq_true {a b : Nat} (h : Nat.beq a b = true) : a = b := Nat.eq_of_beq_eq_true h
theorem beq_false {a b : Nat} (h : Nat.beq a b = false) : a ≠ b := by
  intro e; subst e; simp at h
end Go.Bv

namespace Go.Bv
open Go.RowKit
variable {E : Env} {P : Program} {n : Nat} {L L' : Look} {a : Act} {w w' : World} {G G' : Gho} {D D' : LP → Prop} {o : Oper} {d : Nat} {h : Hint} {ups : List Upd} {obs : List Prop}
def Does (E : Env) (L : Look) (o : Oper) (a : Act) (w : World) (us : List Upd) : Prop :=
  ∀ Q, o.wp E.P a w (fun a' w' => SR E (L.upds us) a' w') Q
theorem does_val (hd : o.dst = some d) {v : Value} (h : (execOp a.eval o).run E.P w = .ok (.value v) w') (hk : SR E (L.upds ups) (a.put (some d) v) w') : Does E L o a w ups :=
  fun Q => upon_val h (by rw [hd]; exact hk)
theorem ev_rel (h : Inv E L a w G) {x : Operand} {sv : SV} {own : OwnL} (he : ev L x = some (sv, own)) : RelS G w sv (a.eval x) := by
  cases x with
  | tmp t => exact (h.tm t sv own he).2.1
  | const v =>
    simp only [ev, Option.map_eq_some_iff] at he
    obtain ⟨y, hy, e⟩ := he
    cases e
    exact avConst_rel hy
  | global g => cases he
  | func f => simp [ev] at he; obtain ⟨rfl, _⟩ := he; exact ⟨[], rfl, rfl⟩
theorem evV_rel (h : Inv E L a w G) {x : Operand} {v : AV} (he : evV L x = some v) : Rel G.X w v (a.eval x) := by
  unfold evV at he
  split at he
  · rename_i y own hy
    cases he
    exact ev_rel h hy
  · cases he
theorem evVs_rel (h : Inv E L a w G) : ∀ {xs : List Operand} {vs : List AV}, evVs L xs = some vs → RelL G.X w vs (xs.map a.eval)
  | [], vs, he => by simp [evVs] at he; subst he; rfl
  | x :: xs, vs, he => by
    simp only [evVs] at he
    split at he
    · rename_i v vs' hv hvs
      cases he
      exact ⟨_, _, rfl, evV_rel h hv, evVs_rel h hvs⟩
    · cases he
theorem upds_append (L : Look) (xs ys : List Upd) : L.upds (xs ++ ys) = (L.upds xs).upds ys := by simp [Look.upds, List.foldl_append]
theorem sr_one (hI : Inv E L a w G) {v : AV} {ob : List Prop} (hd : d < E.n) (hf : one d v h ob = some (ups, obs)) (hob : ∀ p ∈ obs, p) {u : Value} (hr : Rel G.X w v u) : SR E (L.upds ups) (a.put (some d) u) w := by
  unfold one at hf
  split at hf
  · rename_i v' _
    cases hf
    have : v = v' := hob _ (by simp)
    subst this
    exact ⟨G, hI.setT hd (sv := .v v) hr (fun j oe hj => by cases hj)⟩
  · cases hf
    exact ⟨G, hI.setT hd (sv := .v v) hr (fun j oe hj => by cases hj)⟩
theorem one_obs {v : AV} {ob : List Prop} (hf : one d v h ob = some (ups, obs)) (hob : ∀ p ∈ obs, p) : ∀ p ∈ ob, p := by
  unfold one at hf
  split at hf <;> cases hf
  · exact fun p hp => hob p (by simp [hp])
  · exact hob
theorem anyOwn_false : ∀ {l : OwnL}, anyOwn l = false → ∀ j x, (j, x) ∈ l → x.owner = false
  | [], _, j, x, h => by cases h
  | (k, y) :: l, h, j, x, hm => by
    simp only [anyOwn, Bool.or_eq_false_iff] at h
    rcases List.mem_cons.1 hm with h1 | h1
    · cases h1; exact h.1
    · exact anyOwn_false h.2 j x h1
theorem seen_own {p : Nat → OP} : ∀ {own : OwnL} {j : Nat} {x : OE}, (j, x) ∈ seen p own → x.owner = false ∧ ((j, x) ∈ own ∨ (x = .al (p j) [] ∧ ∃ y, (j, y) ∈ own ∧ y.owner = true))
  | [], j, x, h => by cases h
  | (k, .app e) :: l, j, x, h => by
    obtain ⟨h1, h2⟩ := seen_own (own := l) h
    exact ⟨h1, h2.imp (List.mem_cons_of_mem _) (fun ⟨e1, y, h3, h4⟩ => ⟨e1, y, List.mem_cons_of_mem _ h3, h4⟩)⟩
  | (k, .ex e dp xs) :: l, j, x, h => by
    rcases List.mem_cons.1 h with h | h
    · cases h; exact ⟨rfl, .inr ⟨rfl, _, List.mem_cons_self, rfl⟩⟩
    · obtain ⟨h1, h2⟩ := seen_own (own := l) h
      exact ⟨h1, h2.imp (List.mem_cons_of_mem _) (fun ⟨e1, y, h3, h4⟩ => ⟨e1, y, List.mem_cons_of_mem _ h3, h4⟩)⟩
  | (k, .al q π) :: l, j, x, h => by
    rcases List.mem_cons.1 h with h | h
    · cases h; exact ⟨rfl, .inl List.mem_cons_self⟩
    · obtain ⟨h1, h2⟩ := seen_own (own := l) h
      exact ⟨h1, h2.imp (List.mem_cons_of_mem _) (fun ⟨e1, y, h3, h4⟩ => ⟨e1, y, List.mem_cons_of_mem _ h3, h4⟩)⟩
  | (k, .sb q π lo sz n) :: l, j, x, h => by
    rcases List.mem_cons.1 h with h | h
    · cases h; exact ⟨rfl, .inl List.mem_cons_self⟩
    · obtain ⟨h1, h2⟩ := seen_own (own := l) h
      exact ⟨h1, h2.imp (List.mem_cons_of_mem _) (fun ⟨e1, y, h3, h4⟩ => ⟨e1, y, List.mem_cons_of_mem _ h3, h4⟩)⟩
theorem own_seen {p : Nat → OP} {own : OwnL} {j : Nat} {x : OE} {q : OP} {u : Value} (h : (j, x) ∈ seen p own) (ho : ∀ y, (j, y) ∈ own → Own P G w (p j) y u) : Own P G w q x u := by
  obtain ⟨h1, h2⟩ := seen_own h
  rcases h2 with h2 | ⟨rfl, y, h3, h4⟩
  · exact (ho x h2).al_any h1
  · exact ⟨((ho y h3).pv h4).symm, own_slice (ho y h3) h4⟩
inductive Grabbed (E : Env) (L : Look) (a : Act) (w : World) (G : Gho) (x : Operand) (sv : SV) (own : OwnL) : List Upd → Prop where
  | seen (hr : RelS G w sv (a.eval x)) (ho : ∀ j oe, (j, oe) ∈ own → oe.owner = false ∧ ∃ u, (Value.flat (a.eval x))[j]? = some u ∧ ∀ q, Own E.P G w q oe u) : Grabbed E L a w G x sv own []
  | taken (t : Nat) (y : AV) (hx : x = .tmp t) (hs : sv = .v y) (ht : L.t t = some (.v y, own)) (hn : refsL (.t t) own = false) : Grabbed E L a w G x sv own [.f (.t t), .t t (.v y, [])]
theorem grab_spec (hI : Inv E L a w G) {x : Operand} {tk : List Nat} {sv : SV} {own : OwnL} {pre : List Upd} (hg : grab L x tk = some (sv, own, pre)) : Grabbed E L a w G x sv own pre := by
  have other : ∀ {x : Operand}, ev L x = some (sv, own) ∨ (∃ o', ev L x = some (sv, o') ∧ own = []) → (∀ t, x ≠ .tmp t) → pre = [] → Grabbed E L a w G x sv own pre := by
    rintro x hx hne rfl
    rcases hx with hx | ⟨o', hx, rfl⟩
    · refine .seen (ev_rel hI hx) (fun j oe hj => ?_)
      cases x with
      | tmp t => exact absurd rfl (hne t)
      | const v => simp [ev] at hx; obtain ⟨_, _, _, rfl⟩ := hx; cases hj
      | func f => simp [ev] at hx; obtain ⟨_, rfl⟩ := hx; cases hj
      | global g => cases hx
    · exact .seen (ev_rel hI hx) (fun j oe hj => by cases hj)
  cases x with
  | tmp t =>
    simp only [grab] at hg
    split at hg
    · rename_i sv' own' ht
      split at hg
      · split at hg
        · rename_i y
          split at hg
          · cases hg
          · rename_i hn
            cases hg
            exact .taken t y rfl rfl ht hn
        · cases hg
      · cases hg
        obtain ⟨_, h2, h3⟩ := hI.tm t sv own' ht
        refine .seen h2 (fun j oe hj => ?_)
        obtain ⟨h4, h5⟩ := seen_own hj
        have hu : ∃ u, (Value.flat (a.tmps.getD t undef))[j]? = some u := by
          rcases h5 with h5 | ⟨_, y, h5, _⟩
          · obtain ⟨u, hu, _⟩ := h3 j _ h5; exact ⟨u, hu⟩
          · obtain ⟨u, hu, _⟩ := h3 j _ h5; exact ⟨u, hu⟩
        obtain ⟨u, hu⟩ := hu
        refine ⟨h4, u, hu, fun q => own_seen hj (fun y hy => ?_)⟩
        obtain ⟨u', hu', ho⟩ := h3 j y hy
        rw [hu] at hu'; cases hu'
        exact ho
    · cases hg
  | const v =>
    simp only [grab] at hg
    split at hg
    · rename_i sv' o' he; cases hg; exact other (.inr ⟨_, he, rfl⟩) (by simp) rfl
    · cases hg
  | func v =>
    simp only [grab] at hg
    split at hg
    · rename_i sv' o' he; cases hg; exact other (.inr ⟨_, he, rfl⟩) (by simp) rfl
    · cases hg
  | global v => simp [grab, ev] at hg
def moveTT (t d : Nat) : OP → OP
  | .t k j => if k = t then .t d j else .t k j
  | p => p
theorem okE_take {t : Nat} {own : OwnL} (hn : refsL (.t t) own = false) {d j : Nat} {oe : OE} (hj : (j, oe) ∈ own) (ho : oe.owner = false) {q : OP} : okE (DR (.t t)) q oe := by
  have := refsL_false hn j oe hj
  exact okE_ref this (fun h => by rw [ho] at h; cases h)
def pvT (pv : OP → Value) (d : Nat) (u : Value) : OP → Value
  | .t k j => if k = d then ((Value.flat u)[j]?).getD undef else pv (.t k j)
  | p => pv p
theorem pvT_ne {pv : OP → Value} {d : Nat} {u : Value} {p : OP} (h : ¬ DR (.t d) (.own p)) : pvT pv d u p = pv p := by
  cases p with
  | t k j => simp only [DR] at h; simp [pvT, h]
  | b k j => rfl
  | a k j => rfl
theorem pvT_eq {pv : OP → Value} {d j : Nat} {u c : Value} (h : (Value.flat u)[j]? = some c) : pvT pv d u (.t d j) = c := by
  simp only [pvT, if_true, h, Option.getD_some]
theorem sr_moveT (hI : Inv E L a w G) {t : Nat} {y : AV} {own : OwnL} (hd : d < E.n) (ht : L.t t = some (.v y, own)) (hn : refsL (.t t) own = false) (hn' : refsL (.t d) own = false) :
    SR E (L.upds ([.f (.t t), .t t (.v y, [])] ++ (fresh d ++ [.t d (.v y, own)]))) (a.put (some d) (a.tmps.getD t undef)) w := by
  obtain ⟨_, hr, ho⟩ := hI.tm t _ _ ht
  obtain ⟨h1, av1⟩ := hI.clear ht
  obtain ⟨h2, av2⟩ := h1.fresh hd
  have av1' : Av (DR (.t t)) (Look.upds ((L.upd (.f (.t t))).upd (.t t (.v y, []))) (fresh d)) := (av1.f (.t d)).setT trivial (fun j oe hj => by cases hj)
  have av := av1'.or av2
  have hS : Stp (fun q => DR (.t t) q ∨ DR (.t d) q) w w G (G.hand (moveTT t d) (pvT G.pv d (a.tmps.getD t undef))) := Stp.hand hI
    (fun p hp => by
      cases p with
      | t k j => simp only [DR, not_or] at hp; simp [moveTT, hp.1]
      | b k j => rfl
      | a k j => rfl)
    (fun p hp => by
      simp only [not_or] at hp
      exact pvT_ne hp.2)
    (fun i j => rfl)
  have h3 := h2.step' av hS
  refine ⟨_, h3.setT hd (sv := .v y) hr (fun j oe hj => ?_)⟩
  obtain ⟨c, hc, hoc⟩ := ho j oe hj
  refine ⟨c, hc, ?_⟩
  cases hw : oe.owner with
  | true => exact hoc.hand hw (by simp [moveTT]) (pvT_eq hc)
  | false =>
    refine (hS.own ?_ hoc).al_any hw
    exact okE.or (okE_take (d := d) hn hj hw) (okE_take (d := d) hn' hj hw)
theorem putT_plain {sv : SV} {own : OwnL} {us : List Upd} (h : putT d sv own = some us) (ho : ∀ j oe, (j, oe) ∈ own → oe.owner = false) : us = [.t d (sv, own)] := by
  unfold putT at h
  split at h
  · cases h; rfl
  · rename_i hx
    exfalso
    have : ∀ {l : OwnL}, anyOwn l = true → ∃ j x, (j, x) ∈ l ∧ x.owner = true := by
      intro l
      induction l with
      | nil => intro h; cases h
      | cons p l ih =>
        obtain ⟨k, y⟩ := p
        intro h
        simp only [anyOwn, Bool.or_eq_true] at h
        rcases h with h | h
        · exact ⟨k, y, List.mem_cons_self, h⟩
        · obtain ⟨j, x, h1, h2⟩ := ih h; exact ⟨j, x, List.mem_cons_of_mem _ h1, h2⟩
    obtain ⟨j, x, h1, h2⟩ := this hx
    rw [ho j x h1] at h2; cases h2
theorem putT_own {sv : SV} {own : OwnL} {us : List Upd} (h : putT d sv own = some us) : (us = [.t d (sv, own)] ∧ ∀ j oe, (j, oe) ∈ own → oe.owner = false) ∨ (us = fresh d ++ [.t d (sv, own)] ∧ sv.refs (.t d) = false ∧ refsL (.t d) own = false) := by
  unfold putT at h
  split at h
  · rename_i hx; cases h; exact .inl ⟨rfl, anyOwn_false hx⟩
  · split at h
    · cases h
    · rename_i hx
      cases h
      simp only [Bool.or_eq_false_iff] at hx
      exact .inr ⟨rfl, hx.1, hx.2⟩
theorem own_nil {p : OP} {e : TypeId} (he : (sizeP P e).isSome = true) (hp : G.pv p = .slice none 0 0) : Own P G w p (.app e) (.slice none 0 0) := by
  obtain ⟨s, hs⟩ := Option.isSome_iff_exists.1 he
  exact ⟨hp, [], ⟨s, 0, [], hs, World.ownsRow_nil w 0 e s, rfl, by simp⟩, by simp⟩
theorem s_move (hI : Inv E L a w G) (hd : o.dst = some d) (hlt : d < E.n) {x : Operand} (ho : o.op = .move x ∨ o.op = .assign x) (hop : oMove E.P L d o.type x h = some (ups, obs)) : Does E L o a w ups := by
  unfold oMove at hop
  split at hop
  · rename_i sv own pre hg
    split at hop
    · rename_i us hus
      cases hop
      refine does_val hd (v := a.eval x) (w' := w) (by rcases ho with ho | ho <;> simp [execOp, ho]) ?_
      have hG := grab_spec hI hg
      by_cases hnil : isNilC x = true
      · have hx : x = .const (.slice none 0 0) := by
          unfold isNilC at hnil
          split at hnil
          · rfl
          · cases hnil
        subst hx
        have hp : sv = .v (.sl []) ∧ pre = [] := by
          simp [grab, ev, avConst] at hg
          exact ⟨hg.1.symm, hg.2.2⟩
        obtain ⟨rfl, rfl⟩ := hp
        have hrel : Rel G.X w (.sl []) (.slice none 0 0) := ⟨none, 0, 0, rfl, rfl, Nat.le_refl _, .inl rfl⟩
        rcases putT_own hus with ⟨rfl, hno⟩ | ⟨rfl, _, _⟩
        · exact ⟨G, hI.setT hlt (sv := .v (.sl [])) hrel (fun j oe hj => by
            have h1 := hno j oe hj
            unfold nilOwn at hj
            rw [hnil] at hj
            simp only [] at hj
            split at hj
            · split at hj
              · simp at hj; obtain ⟨rfl, rfl⟩ := hj; cases h1
              · cases hj
            · cases hj)⟩
        · obtain ⟨h2, av2⟩ := hI.fresh hlt
          have hS : Stp (DR (.t d)) w w G (G.hand id (pvT G.pv d (.slice none 0 0))) := Stp.hand hI (fun p hp => rfl) (fun p hp => pvT_ne hp) (fun i j => rfl)
          have h3 := h2.step' av2 hS
          refine ⟨_, h3.setT hlt (sv := .v (.sl [])) hrel (fun j oe hj => ?_)⟩
          unfold nilOwn at hj
          rw [hnil] at hj
          simp only [] at hj
          split at hj
          · split at hj
            · rename_i he
              simp at hj; obtain ⟨rfl, rfl⟩ := hj
              exact ⟨_, rfl, own_nil he (pvT_eq rfl)⟩
            · cases hj
          · cases hj
      · have hno : nilOwn E.P o.type x own = own := by
          unfold nilOwn
          cases hb : isNilC x with
          | true => exact absurd hb hnil
          | false => rfl
        rw [hno] at hus
        cases hG with
        | seen hr hoo =>
          have := putT_plain hus (fun j oe hj => (hoo j oe hj).1)
          subst this
          exact ⟨G, hI.setT hlt hr (fun j oe hj => by obtain ⟨_, u, hu, h⟩ := hoo j oe hj; exact ⟨u, hu, h _⟩)⟩
        | taken t y hx hs ht hn =>
          subst hx; subst hs
          rcases putT_own hus with ⟨rfl, hno⟩ | ⟨rfl, _, h2⟩
          · obtain ⟨h1, av1⟩ := hI.clear ht
            obtain ⟨_, hr, hoo⟩ := hI.tm t _ _ ht
            exact ⟨G, h1.setT hlt (sv := .v y) hr (fun j oe hj => by
              obtain ⟨c, hc, hoc⟩ := hoo j oe hj
              exact ⟨c, hc, hoc.al_any (hno j oe hj)⟩)⟩
          · exact sr_moveT hI hlt ht hn h2
    · cases hop
  · cases hop
theorem s_seen (hI : Inv E L a w G) (hlt : d < E.n) {x : Operand} (hop : oSeen L d x = some (ups, obs)) : SR E (L.upds ups) (a.put (some d) (a.eval x)) w := by
  unfold oSeen at hop
  split at hop
  · rename_i sv own pre hg
    cases hop
    have hG := grab_spec hI hg
    cases hG with
    | seen hr hoo => exact ⟨G, hI.setT hlt hr (fun j oe hj => by obtain ⟨_, u, hu, h⟩ := hoo j oe hj; exact ⟨u, hu, h _⟩)⟩
    | taken t y hx hs ht hn =>
      subst hx
      simp [grab, ht, memN] at hg
  · cases hop
end Go.Bv

namespace Go.Bv
open Go.RowKit
variable {E : Env} {P : Program} {n : Nat} {L L' : Look} {a : Act} {w w' : World} {G G' : Gho} {D D' : LP → Prop} {o : Oper} {d : Nat} {h : Hint} {ups : List Upd} {obs : List Prop}
def Gho.grow (G : Gho) (b0 : Nat) (x : Option Nat) (l : Option LP) (ρ : OP → OP) (bx' : Nat → Nat) (pv' : OP → Value) : Gho where
  X := fun b => if b = b0 then x else G.X b
  bx := bx'
  lab := fun b => if b = b0 then l else (G.lab b).map (LP.to ρ)
  pv := pv'
theorem heap_alloc_lt (w : World) (ob : Obj) (k : Nat) (h : k < w.heap.size) : (w.alloc ob).heap[k]? = w.heap[k]? := Below.heap_alloc w ob k h
theorem Stp.alloc (h : Inv E L a w G) (ob : Obj) (x : Option Nat) (l : Option LP) {ρ : OP → OP} {bx' : Nat → Nat} {pv' : OP → Value} (hρ : ∀ p, ¬ D (.own p) → ρ p = p) (hbx : ∀ d, ¬ D (.ptr d) → bx' d = G.bx d)
    (hpv : ∀ p, ¬ D (.own p) → pv' p = G.pv p) (hpin : ∀ i j, pv' (.a i j) = G.pv (.a i j)) (hbp : ∀ d, 1000000 ≤ d → bx' d = G.bx d) : Stp D w (w.alloc ob) G (G.grow w.heap.size x l ρ bx' pv') := by
  have hne : ∀ b, b < w.heap.size → b ≠ w.heap.size := fun b hb => by omega
  refine ⟨rfl, rfl, rfl, by simp, ?_, ⟨?_, ?_⟩, fun b hb => (h.new b hb).2, ?_, ?_, hbx, hpv, ⟨hpin, hbp⟩⟩
  · intro b hb hp
    refine ⟨heap_alloc_lt w ob b hb, by simp [Gho.grow, hne b hb], ?_⟩
    simp only [Gho.grow, if_neg (hne b hb)]
    cases hl : G.lab b with
    | none => rfl
    | some p =>
      have := hp p hl
      cases p with
      | box d => rfl
      | ptr d => rfl
      | arg i j => rfl
      | own p => simp [LP.to, hρ p this]
  · intro b o u hc hk
    have hlt := World.block_lt_of_cell? w ⟨b, o, none⟩ hc
    refine ⟨(cell_same (heap_alloc_lt w ob b hlt) o).trans hc, ?_⟩
    simpa [okc, Gho.grow, hne b hlt] using hk
  · intro r es k hr hk
    have hlt : r < w.heap.size := (Array.getElem?_eq_some_iff.1 hr).1
    exact ⟨(heap_alloc_lt w ob r hlt).trans hr, by simpa [Gho.grow, hne r hlt] using hk⟩
  · intro b hb
    simp only [World.size_alloc] at hb
    have := h.new b (by omega)
    simp [Gho.grow, show b ≠ w.heap.size by omega, this.1, this.2]
  · intro b p hp
    by_cases e : b = w.heap.size
    · exact .inr (by omega)
    · simp only [Gho.grow, if_neg e, Option.map_eq_some_iff] at hp
      obtain ⟨q, hq, _⟩ := hp
      exact .inl ⟨q, hq⟩
theorem Rs.grow {x : Option Nat} {l : Option LP} {ρ : OP → OP} {bx' : Nat → Nat} {pv' : OP → Value} {ob : Obj} (hn : ∀ b, w.heap.size ≤ b → G.lab b = none) {oe : OE} {u : Value} {F : List Nat} (hr : Rs P G.X w oe u F)
    (hE : Ext G.X w (G.grow w.heap.size x l ρ bx' pv').X (w.alloc ob)) : Rs P (G.grow w.heap.size x l ρ bx' pv').X (w.alloc ob) oe u F :=
  hr.stay (fun b hb => ⟨heap_alloc_lt w ob b (hr.lt b hb), by have := hr.lt b hb; simp [Gho.grow, show b ≠ w.heap.size by omega]⟩) hE
theorem Own.grow {x : Option Nat} {l : Option LP} {ρ : OP → OP} {bx' : Nat → Nat} {pv' : OP → Value} {ob : Obj} {p q : OP} {oe : OE} {u : Value} (hn : ∀ b, w.heap.size ≤ b → G.lab b = none) (ho : Own P G w p oe u) (hw : oe.owner = true)
    (hE : Ext G.X w (G.grow w.heap.size x l ρ bx' pv').X (w.alloc ob)) (hq : ρ p = q) (hv : pv' q = u) : Own P (G.grow w.heap.size x l ρ bx' pv') (w.alloc ob) q oe u := by
  have key : (G.pv p = u ∧ ∃ F, Rs P G.X w oe u F ∧ ∀ b ∈ F, G.lab b = some (.own p)) → ((G.grow w.heap.size x l ρ bx' pv').pv q = u ∧ ∃ F, Rs P (G.grow w.heap.size x l ρ bx' pv').X (w.alloc ob) oe u F ∧ ∀ b ∈ F, (G.grow w.heap.size x l ρ bx' pv').lab b = some (.own q)) := by
    rintro ⟨_, F, h2, h3⟩
    refine ⟨hv, F, h2.grow hn hE, fun b hb => ?_⟩
    have := h2.lt b hb
    simp [Gho.grow, show b ≠ w.heap.size by omega, h3 b hb, LP.to, hq]
  cases oe with
  | app e => exact key ho
  | ex e dp xs => exact key ho
  | al q π => cases hw
  | sb q π lo sz n => cases hw
def Look.noB (L : Look) (d : Nat) : Look := { L with b := fun k => if k = d then none else L.b k }
theorem noB_upd {x : BX} : (L.noB d).upd (.b d x) = L.upd (.b d x) := by
  simp only [Look.noB, Look.upd]
  congr 1
  funext k
  by_cases e : k = d <;> simp [e]
theorem Sub.noB (L : Look) (d : Nat) : Sub (fun _ => False) (L.noB d) L := by
  refine ⟨fun s sv own hs => ⟨own, hs, okS_false, fun j oe hj => ⟨hj, okE_false⟩⟩, fun k x hk => ⟨fun h => h.elim id id, x, ?_, ?_⟩, fun i own hi => ⟨own, hi, fun j oe hj => ⟨hj, okE_false⟩⟩⟩
  · simp only [Look.noB] at hk
    split at hk
    · cases hk
    · exact hk
  · cases x with
    | cells cs own => exact ⟨rfl, fun j oe hj => ⟨hj, okE_false⟩⟩
    | map ks vs => exact ⟨rfl, rfl⟩
    | ref q => exact ⟨rfl, fun h => h⟩
theorem Inv.clearB (h : Inv E L a w G) (d : Nat) : Inv E ((L.upd (.f (.bp d))).noB d) a w G ∧ Av (DR (.bp d)) ((L.upd (.f (.bp d))).noB d) := by
  refine ⟨(h.forget _).less (Sub.noB _ _), ?_⟩
  have e : (L.upd (.f (.bp d))).noB d = (L.noB d).upd (.f (.bp d)) := by
    simp only [Look.noB, Look.upd]
    congr 1
    funext k
    by_cases e : k = d <;> simp [e]
  rw [e]
  refine Av.ref ?_ ?_ ?_
  · intro s sv own hs _ j oe _ _ hd; exact hd
  · intro k x hk _
    have hne : k ≠ d := by
      intro e; subst e
      simp [Look.noB] at hk
    exact ⟨fun h => h.elim hne hne, fun cs own _ j oe _ _ h => hne h⟩
  · intro i own _ _ j oe _ _ h; exact h
def pvB (pv : OP → Value) (d : Nat) (us : List Value) : OP → Value
  | .b k j => if k = d then (us[j]?).getD undef else pv (.b k j)
  | p => pv p
theorem pvB_ne {pv : OP → Value} {d : Nat} {us : List Value} {p : OP} (h : ¬ DR (.bp d) (.own p)) : pvB pv d us p = pv p := by
  cases p with
  | t k j => rfl
  | b k j => simp only [DR] at h; simp [pvB, h]
  | a k j => rfl
theorem pvB_ne' {pv : OP → Value} {d : Nat} {us : List Value} {p : OP} (h : ¬ DR (.b d) (.own p)) : pvB pv d us p = pv p := by
  cases p with
  | t k j => rfl
  | b k j => simp only [DR] at h; simp [pvB, h]
  | a k j => rfl
theorem pvB_eq {pv : OP → Value} {d j : Nat} {us : List Value} {c : Value} (h : us[j]? = some c) : pvB pv d us (.b d j) = c := by
  simp only [pvB, if_true, h, Option.getD_some]
theorem Inv.newBox (hI : Inv E L a w G) (hd : d < E.n) {D : LP → Prop} (hav : Av D L) (hD : ∀ p, DR (.bp d) p → D p) {us : Array Value} {cs : List AV} {T : TypeId} {own : OwnL} {ρ : OP → OP} (hρ : ∀ p, ¬ D (.own p) → ρ p = p)
    (hρa : True) (hrel : RelL G.X w cs us.toList)
    (ho : ∀ j oe, (j, oe) ∈ own → ∃ c, us[j]? = some c ∧ ((oe.owner = true ∧ ∃ p, ρ p = .b d j ∧ Own E.P G w p oe c) ∨ (oe.owner = false ∧ okE D (.b d j) oe ∧ Own E.P G w (.b d j) oe c))) :
    SR E ((L.upd (.b d (.cells cs own))).upd (.t d (.ptr d 0, []))) (a.put (some d) (.pointer (some ⟨w.heap.size, 0, none⟩))) (w.alloc (.cells us T)) := by
  let bx' : Nat → Nat := fun k => if k = d then w.heap.size else G.bx k
  have hS : Stp D w (w.alloc (.cells us T)) G (G.grow w.heap.size (some 0) (some (.box d)) ρ bx' (pvB G.pv d us.toList)) :=
    Stp.alloc hI _ _ _ hρ (fun k hk => by
      have : k ≠ d := fun e => hk (hD _ (by rw [e]; exact rfl))
      simp [bx', this]) (fun p hp => pvB_ne (fun h => hp (hD _ h))) (fun i j => rfl) (fun k hk => by
      have := hI.pin.2.1
      have : k ≠ d := by omega
      simp [bx', this])
  have h1 := hI.step' hav hS
  have hbx : (G.grow w.heap.size (some 0) (some (.box d)) ρ bx' (pvB G.pv d us.toList)).bx d = w.heap.size := by simp [Gho.grow, bx']
  have hnew : (w.alloc (.cells us T)).heap[w.heap.size]? = some (.cells us T (0, 0)) := heap_alloc_new w _
  have h2 := h1.setB (d := d) (x := .cells cs own) (by rw [hbx]; simp [Gho.grow]) (by rw [hbx]; simp [Gho.grow]) ⟨us, T, by rw [hbx]; exact hnew, RelL.mono hS.ext _ _ hrel, fun j oe hj => by
    obtain ⟨c, hc, hoc⟩ := ho j oe hj
    refine ⟨c, hc, ?_⟩
    rcases hoc with ⟨hw, p, hp, hoc⟩ | ⟨hw, hk, hoc⟩
    · exact hoc.grow (fun b hb => (hI.new b hb).2) hw hS.ext hp (pvB_eq (by simpa using hc))
    · exact hS.own hk hoc⟩
  exact ⟨_, h2.setT hd (sv := .ptr d 0) (by rw [RelS, hbx]) (fun j oe hj => by cases hj)⟩
theorem zeroOwn_spec {T : TypeId} {i : TypeInfo} {z : Value} (hi : P.info? T = some i) (hz : i.zero = some z) {j : Nat} {oe : OE} (hj : (j, oe) ∈ zeroOwn P T) : z.cells[j]? = some (.slice none 0 0) ∧ ∃ e, oe = .app e ∧ (sizeP P e).isSome = true := by
  simp only [zeroOwn, hi, Option.bind_some, hz, List.mem_map, List.mem_filter] at hj
  obtain ⟨⟨q1, q2⟩, ⟨_, h2⟩, h3⟩ := hj
  cases h3
  split at h2
  · rename_i hv; exact ⟨hv, q2, rfl, h2⟩
  · cases h2
theorem rs_nil {X : Gh} {e : TypeId} (he : (sizeP P e).isSome = true) : Rs P X w (.app e) (.slice none 0 0) [] := by
  obtain ⟨s, hs⟩ := Option.isSome_iff_exists.1 he
  exact ⟨s, 0, [], hs, World.ownsRow_nil w 0 e s, rfl, by simp⟩
theorem s_alloc (hI : Inv E L a w G) (hd : o.dst = some d) (hlt : d < E.n) {T : TypeId} (ho : o.op = .alloc T) (hop : oAlloc E.P d T = some (ups, obs)) : Does E L o a w ups := by
  unfold oAlloc at hop
  split at hop
  · rename_i zs hz
    cases hop
    obtain ⟨i, z, hi, hzz, hc⟩ := zeroP_spec hz
    refine does_val hd (v := .pointer (some ⟨w.heap.size, 0, none⟩)) (w' := w.alloc (.cells z.cells T)) (by simp [execOp, ho, Instr.alloc, run_zeroValue hi hzz, newVar, newRow]) ?_
    obtain ⟨h1, av1⟩ := hI.clearB d
    -- the nil slices get their place first
    have hS : Stp (DR (.bp d)) w w G (G.hand id (pvB G.pv d z.cells.toList)) := Stp.hand hI (fun p hp => rfl) (fun p hp => pvB_ne hp) (fun i j => rfl)
    have h2 := h1.step' av1 hS
    have := h2.newBox hlt av1 (fun p hp => hp) (us := z.cells) (T := T) (cs := zs) (own := zeroOwn E.P T) (ρ := id) (fun p hp => rfl) trivial (avConsts_rel hc) (fun j oe hj => by
      obtain ⟨h3, e, rfl, h4⟩ := zeroOwn_spec hi hzz hj
      exact ⟨_, h3, .inl ⟨rfl, .b d j, rfl, own_nil h4 (pvB_eq (by simpa using h3))⟩⟩)
    rw [noB_upd] at this
    exact this
  · cases hop
theorem flat_cells {u : Value} (h : ∀ vs, u ≠ .tuple vs) : Value.flat u = u.cells.toList := by
  cases u <;> first | rfl | exact absurd rfl (h _)
theorem rel_notuple {X : Gh} {x : AV} {u : Value} (h : Rel X w x u) (hs : x.solid = true) : ∀ vs, u ≠ .tuple vs := by
  intro vs e
  subst e
  cases x with
  | int k m => cases h
  | bool b => cases h
  | str s => cases h
  | agg cs => obtain ⟨us, e, _⟩ := h; cases e
  | tup cs => simp [AV.solid] at hs
  | sl xs => obtain ⟨A, len, cap, e, _⟩ := h; cases e
  | vptr cs => obtain ⟨b, f, e, _⟩ := h; cases e
  | func f cs => obtain ⟨us, e, _⟩ := h; cases e
  | mp ks vs => obtain ⟨r, es, k, e, _⟩ := h; cases e
  | slx => obtain ⟨A, len, cap, e⟩ := h; cases e
  | raw _ => obtain ⟨_, A, len, cap, e⟩ := h; cases e
  | undef => simp [AV.solid] at hs
theorem rel_solid {X : Gh} {x : AV} {u : Value} (h : Rel X w x u) (hs : x.solid = true) : RelL X w x.cells u.cells.toList :=
  h.cells (by intro e; subst e; simp [AV.solid] at hs) (by intro vs e; subst e; simp [AV.solid] at hs)
def moveTB (t d off : Nat) : OP → OP
  | .t k j => if k = t then .b d (off + j) else .t k j
  | p => p
theorem s_box (hI : Inv E L a w G) (hd : o.dst = some d) (hlt : d < E.n) {T : TypeId} {x : Operand} (ho : o.op = .box T x) (hop : oBox L d x h = some (ups, obs)) : Does E L o a w ups := by
  unfold oBox at hop
  split at hop
  · rename_i av own pre hg
    split at hop
    · rename_i hc
      cases hop
      rw [Bool.and_eq_true, Bool.not_eq_true'] at hc
      obtain ⟨hsol, hnr⟩ := hc
      have hexec : (execOp a.eval o).run E.P w = .ok (.value (.pointer (some ⟨w.heap.size, 0, none⟩))) (w.alloc (.cells (a.eval x).cells T)) := by
        simp [execOp, ho, Instr.box, newVar, newRow]
      refine does_val hd hexec ?_
      have hG := grab_spec hI hg
      cases hG with
      | seen hr hoo =>
        obtain ⟨h1, av1⟩ := hI.clearB d
        have := h1.newBox hlt av1 (fun p hp => hp) (us := (a.eval x).cells) (T := T) (cs := av.cells) (own := own) (ρ := id) (fun p hp => rfl) trivial (rel_solid hr hsol) (fun j oe hj => by
          obtain ⟨h2, u, hu, h3⟩ := hoo j oe hj
          rw [flat_cells (rel_notuple hr hsol)] at hu
          exact ⟨u, by simpa using hu, .inr ⟨h2, okE_ref (refsL_false hnr j oe hj) (fun h => by rw [h2] at h; cases h), h3 _⟩⟩)
        rw [noB_upd] at this
        exact this
      | taken t y hx hs ht hn =>
        subst hx; cases hs
        obtain ⟨_, hr, hoo⟩ := hI.tm t _ _ ht
        obtain ⟨h1, av1⟩ := hI.clear ht
        obtain ⟨h2, av2⟩ := h1.clearB d
        have av1' : Av (DR (.t t)) (((((L.upd (.f (.t t))).upd (.t t (.v av, []))).upd (.f (.bp d)))).noB d) := by
          have := av1.f (.bp d)
          refine ⟨this.t, fun k x hk => this.b k x ?_, this.g⟩
          simp only [Look.noB] at hk
          split at hk
          · cases hk
          · exact hk
        have := h2.newBox hlt (av1'.or av2) (fun p hp => .inr hp) (us := (a.eval (.tmp t)).cells) (T := T) (cs := av.cells) (own := own) (ρ := moveTB t d 0) (fun p hp => by
            simp only [not_or] at hp
            cases p with
            | t k j => simp only [DR] at hp; simp [moveTB, hp.1]
            | b k j => rfl
            | a k j => rfl) trivial (rel_solid hr hsol) (fun j oe hj => by
          obtain ⟨c, hc, hoc⟩ := hoo j oe hj
          have hc' : (Value.flat (a.eval (.tmp t)))[j]? = some c := hc
          rw [flat_cells (rel_notuple (u := a.eval (.tmp t)) hr hsol)] at hc'
          refine ⟨c, by rw [← Array.getElem?_toList]; exact hc', ?_⟩
          cases hw : oe.owner with
          | true => exact .inl ⟨rfl, .t t j, by simp [moveTB], hoc⟩
          | false => exact .inr ⟨rfl, okE.or (okE_take (d := d) hn hj hw) (okE_ref (refsL_false hnr j oe hj) (fun h => by rw [hw] at h; cases h)), hoc.al_any hw⟩)
        rw [noB_upd] at this
        exact this
    · cases hop
  · cases hop
end Go.Bv

namespace Go.Bv
open Go.RowKit
variable {E : Env} {P : Program} {n : Nat} {L L' : Look} {a : Act} {w w' : World} {G G' : Gho} {D D' : LP → Prop} {o : Oper} {d : Nat} {h : Hint} {ups : List Upd} {obs : List Prop}
theorem inRange_iff {lo n j : Nat} : inRange lo n j = true ↔ lo ≤ j ∧ j < lo + n := by
  simp only [inRange, Bool.and_eq_true, Nat.ble_eq, Nat.blt]
  constructor <;> rintro ⟨h1, h2⟩ <;> exact ⟨h1, by omega⟩
theorem mem_cutO {lo n : Nat} : ∀ {own : OwnL} {j : Nat} {x : OE}, (j, x) ∈ cutO lo n own → (lo + j, x) ∈ own ∧ j < n
  | [], j, x, h => by cases h
  | (k, y) :: l, j, x, h => by
    simp only [cutO] at h
    split at h
    · rename_i hr
      obtain ⟨h1, h2⟩ := inRange_iff.1 hr
      rcases List.mem_cons.1 h with h | h
      · cases h
        exact ⟨by rw [show lo + (k - lo) = k by omega]; exact List.mem_cons_self, by omega⟩
      · obtain ⟨h3, h4⟩ := mem_cutO h; exact ⟨List.mem_cons_of_mem _ h3, h4⟩
    · obtain ⟨h3, h4⟩ := mem_cutO h; exact ⟨List.mem_cons_of_mem _ h3, h4⟩
theorem mem_restO {lo n : Nat} : ∀ {own : OwnL} {j : Nat} {x : OE}, (j, x) ∈ restO lo n own → (j, x) ∈ own ∧ ¬ (lo ≤ j ∧ j < lo + n)
  | [], j, x, h => by cases h
  | (k, y) :: l, j, x, h => by
    simp only [restO] at h
    split at h
    · obtain ⟨h3, h4⟩ := mem_restO h; exact ⟨List.mem_cons_of_mem _ h3, h4⟩
    · rename_i hr
      rcases List.mem_cons.1 h with h | h
      · cases h
        exact ⟨List.mem_cons_self, fun hh => by rw [inRange_iff.2 hh] at hr; cases hr⟩
      · obtain ⟨h3, h4⟩ := mem_restO h; exact ⟨List.mem_cons_of_mem _ h3, h4⟩
theorem mem_shiftO {off : Nat} : ∀ {own : OwnL} {j : Nat} {x : OE}, (j, x) ∈ shiftO off own → ∃ i, j = off + i ∧ (i, x) ∈ own
  | [], j, x, h => by cases h
  | (k, y) :: l, j, x, h => by
    rcases List.mem_cons.1 h with h | h
    · cases h; exact ⟨k, rfl, List.mem_cons_self⟩
    · obtain ⟨i, h1, h2⟩ := mem_shiftO h; exact ⟨i, h1, List.mem_cons_of_mem _ h2⟩
theorem fitB_iff {ag : Bool} {off s len : Nat} (h : fitB ag off s len = true) : off + s ≤ len ∧ (ag = true ∨ s = 1) := by
  simp only [fitB, Bool.and_eq_true, Bool.or_eq_true, Nat.ble_eq] at h
  exact ⟨h.1, h.2.imp id Nat.eq_of_beq_eq_true⟩
theorem flat_loaded {ag : Bool} {us : List Value} {u : Value} (hu : if ag then u = .agg us.toArray else us = [u]) {j : Nat} {c : Value} (hc : us[j]? = some c) (hs : ag = true ∨ ∃ A l k, c = .slice A l k) : (Value.flat u)[j]? = some c := by
  cases ag with
  | true => simp at hu; subst hu; simpa [Value.flat, Value.cells] using hc
  | false =>
    simp at hu hs
    subst hu
    obtain ⟨A, l, k, rfl⟩ := hs
    cases j with
    | zero => simp at hc; subst hc; rfl
    | succ j => simp at hc
def moveBT (k off s d : Nat) : OP → OP
  | .b i j => if i = k ∧ off ≤ j ∧ j < off + s then .t d (j - off) else .b i j
  | p => p
def DBr (k off s : Nat) : LP → Prop
  | .own (.b i j) => i = k ∧ off ≤ j ∧ j < off + s
  | _ => False
theorem DBr_sub {k off s : Nat} {q : LP} (h : DBr k off s q) : DR (.b k) q := by
  cases q with
  | box d => exact h
  | ptr d => exact h
  | arg i j => exact h
  | own p =>
    cases p with
    | t s j => exact h
    | b i j => exact h.1
    | a i j => exact h
theorem Inv.clearBr (hI : Inv E L a w G) {k off s : Nat} {cs : List AV} {own : OwnL} (hb : L.b k = some (.cells cs own)) (hn : refsL (.b k) own = false) :
    Inv E ((L.upd (.f (.b k))).upd (.b k (.cells cs (restO off s own)))) a w G ∧ Av (DBr k off s) ((L.upd (.f (.b k))).upd (.b k (.cells cs (restO off s own)))) := by
  obtain ⟨h1, h2, us, e, h3, h4⟩ := hI.bo k _ hb
  refine ⟨(hI.forget (.b k)).setB h1 h2 ⟨us, e, h3, h4.rel, fun j oe hj => h4.own j oe (mem_restO hj).1⟩, ?_⟩
  -- with box k left out, nothing hangs on it
  have key : Av (DR (.b k)) ((L.noB k).upd (.f (.b k))) := by
    refine Av.ref ?_ ?_ ?_
    · intro s sv own hs _ j oe _ _ hd; exact hd
    · intro i x hi _
      refine ⟨fun h => h.elim id id, fun cs own hx j oe _ _ hd => ?_⟩
      have : i = k := hd
      subst this
      simp [Look.noB] at hi
    · intro i own _ _ j oe _ _ h; exact h
  have key' := key.mono (D' := DBr k off s) (fun q hq => DBr_sub hq)
  refine ⟨fun s sv own hs => key'.t s sv own hs, ?_, fun i own hi => key'.g i own hi⟩
  intro i x hi
  by_cases e : i = k
  · subst e
    simp only [Look.upd, if_pos] at hi
    cases hi
    refine ⟨fun h => h.elim id id, fun j oe hj => ?_⟩
    obtain ⟨hj1, hj2⟩ := mem_restO hj
    have hr := refsL_false hn j oe hj1
    cases oe with
    | app e => exact fun hd => hj2 hd.2
    | ex e dp xs => exact fun hd => hj2 hd.2
    | al q π => exact okE_al hr fun hd => DBr_sub hd
    | sb q π lo sz n => intro hd; have := DR_inn (DBr_sub hd); simp [OE.refs, this.1, this.2] at hr
  · simp only [Look.upd, if_neg e] at hi
    refine key'.b i x ?_
    refine f_b.2 ?_
    obtain ⟨h5, h6⟩ := f_b.1 hi
    exact ⟨by simp [Look.noB, e, h5], h6⟩
theorem At.append {lab : Nat → Option LP} {p : OP} : ∀ {π : Path} {v u u' : Value} {ρ : Path}, At w lab p v π u → At w lab p u ρ u' → At w lab p v (π ++ ρ) u'
  | [], v, u, u', ρ, e, h => by rw [show u = v from e] at h; exact h
  | (i, sz, o) :: π, v, u, u', ρ, ⟨b, len, cap, v', h1, h2, h3, h4, h5⟩, h => ⟨b, len, cap, v', h1, h2, h3, h4, h5.append h⟩
theorem rootO_own (hI : Inv E L a w G) {p : OP} {oe : OE} (h : rootO L p = some oe) (hw : oe.owner = true) : ∃ u, Own E.P G w p oe u := by
  cases p with
  | t s j =>
    simp only [rootO] at h
    split at h
    · rename_i sv own hs
      obtain ⟨u, _, ho⟩ := (hI.tm s sv own hs).2.2 j oe (lkO_mem h)
      exact ⟨u, ho⟩
    · cases h
  | b s j =>
    simp only [rootO] at h
    split at h
    · rename_i cs own hs
      obtain ⟨_, _, us, e, _, h4⟩ := hI.bo s _ hs
      obtain ⟨u, _, ho⟩ := h4.own j oe (lkO_mem h)
      exact ⟨u, ho⟩
    · cases h
  | a s j =>
    simp only [rootO] at h
    split at h
    · rename_i own hs
      exact ⟨_, hI.gr s own hs j oe (lkO_mem h)⟩
    · cases h
structure Held (P : Program) (G : Gho) (w : World) (p : OP) (dp : Bool) (xs : List (List AV)) (u : Value) : Prop where
  row : ∃ e sz us F, sizeP P e = some sz ∧ w.ownsRow 0 e sz u xs.length us ∧ (∀ c ∈ xs, c.length = sz) ∧ (match dp with | true => DVL P w xs.flatten us F | false => RelL G.X w xs.flatten us) ∧ ∀ b ∈ blks u ++ F, G.lab b = some (.own p)
theorem flatten_get : ∀ {xs : List (List AV)} {sz i o : Nat} {c : List AV}, (∀ c ∈ xs, c.length = sz) → xs[i]? = some c → o < sz → xs.flatten[i * sz + o]? = c[o]?
  | [], _, _, _, _, _, h, _ => by simp at h
  | r :: xs, sz, 0, o, c, hl, h, ho => by
    simp at h; subst h
    have := hl r (by simp)
    rw [List.flatten_cons, Nat.zero_mul, Nat.zero_add, List.getElem?_append_left (by omega)]
  | r :: xs, sz, i + 1, o, c, hl, h, ho => by
    have hr := hl r (by simp)
    rw [List.flatten_cons, Nat.add_mul, Nat.one_mul, List.getElem?_append_right (by omega), show i * sz + sz + o - r.length = i * sz + o by omega]
    exact flatten_get (fun c hc => hl c (by simp [hc])) (by simpa using h) ho
theorem DVL.get : ∀ {cs : List AV} {us : List Value} {F : List Nat} (i : Nat) {c : AV}, DVL P w cs us F → cs[i]? = some c → ∃ u F', us[i]? = some u ∧ DV P w c u F' ∧ ∀ b ∈ F', b ∈ F
  | [], _, _, _, _, _, h => by simp at h
  | c :: cs, _, _, 0, _, ⟨u, r, F1, F2, e, e2, a, b⟩, h => by subst e; subst e2; simp at h; exact ⟨u, F1, rfl, h ▸ a, fun b hb => by simp [hb]⟩
  | c :: cs, _, _, i + 1, _, ⟨u, r, F1, F2, e, e2, a, b⟩, h => by
    subst e; subst e2
    obtain ⟨v, F', h1, h2, h3⟩ := DVL.get i b (by simpa using h)
    exact ⟨v, F', h1, h2, fun b hb => by simp [h3 b hb]⟩
theorem own_held {p : OP} {e : TypeId} {dp : Bool} {xs : List (List AV)} {u : Value} (h : Own P G w p (.ex e dp xs) u) : Held P G w p dp xs u := by
  obtain ⟨_, F, ⟨e', sz, us, F', _, h1, h2, h3, h4, rfl, _, _⟩, h6⟩ := h
  refine ⟨e', sz, us, F', h1, h2, h3, ?_, h6⟩
  cases dp with
  | true => exact h4
  | false => exact h4.2
theorem Held.cell {p : OP} {dp : Bool} {xs : List (List AV)} {u : Value} (h : Held P G w p dp xs u) {i : Nat} {c : List AV} (hi : xs[i]? = some c) :
    ∃ b len cap, u = .slice (some ⟨b, 0, none⟩) len cap ∧ G.lab b = some (.own p) ∧ len = xs.length ∧ i < len ∧ ∀ (off s : Nat), off + s ≤ c.length → ∃ vs : List Value, vs.length = s ∧ CellsAt w b (i * c.length + off) vs ∧
      (match dp with | true => ∀ (j : Nat) (x : AV), ((c.drop off).take s)[j]? = some x → ∃ v F, vs[j]? = some v ∧ DV P w x v F ∧ ∀ b ∈ F, G.lab b = some (.own p) | false => RelL G.X w ((c.drop off).take s) vs) := by
  obtain ⟨e, sz, us, F, h1, h2, h3, h4, h5⟩ := h.row
  have hlt : i < xs.length := (List.getElem?_eq_some_iff.1 hi).1
  have hc : c.length = sz := h3 c (List.mem_of_getElem? hi)
  rcases h2.2 with ⟨_, h0⟩ | ⟨g, cap, cur, rfl, _, hg, _⟩
  · omega
  · refine ⟨g, _, cap, rfl, h5 g (by simp [blks, Value.ownBlock]), rfl, hlt, ?_⟩
    intro off s hfit
    have hlen : xs.flatten.length = xs.length * sz := by
      have := h2.1
      cases dp with
      | true => rw [← h4.length]; exact this
      | false => rw [← RelL.length h4]; exact this
    have hmul : i * sz + sz ≤ xs.length * sz := by
      have := Nat.mul_le_mul_right sz (show i + 1 ≤ xs.length from hlt)
      rwa [Nat.add_mul, Nat.one_mul] at this
    have hus : us.length = xs.length * sz := h2.1
    have hcell : ∀ j v, us[j]? = some v → w.cell? ⟨g, j, none⟩ = some v := fun j v hj => by
      have := h2.cells (g := g) rfl j v hj
      rwa [add_lit, Nat.zero_add] at this
    refine ⟨(us.drop (i * c.length + off)).take s, by rw [List.length_take, List.length_drop, hc]; omega, ?_, ?_⟩
    · intro j v hj
      rw [List.getElem?_take] at hj
      split at hj
      · rw [List.getElem?_drop] at hj; exact hcell _ _ hj
      · cases hj
    · have hget : ∀ j, j < s → xs.flatten[i * sz + off + j]? = (c.drop off)[j]? := fun j hj => by
        rw [List.getElem?_drop, Nat.add_assoc]
        exact flatten_get h3 hi (by omega)
      cases dp with
      | true =>
        intro j x hx
        rw [List.getElem?_take] at hx
        split at hx
        · rename_i hjs
          rw [← hget j hjs] at hx
          obtain ⟨v, F', h6, h7, h8⟩ := DVL.get _ h4 hx
          refine ⟨v, F', ?_, h7, fun b hb => h5 b (by simp [h8 b hb])⟩
          rw [List.getElem?_take, if_pos hjs, List.getElem?_drop, hc]; exact h6
        · cases hx
      | false =>
        have h6 : RelL G.X w ((xs.flatten.drop (i * sz + off)).take s) ((us.drop (i * sz + off)).take s) := (RelL.drop _ h4).take s
        rw [hc]
        have h7 : (xs.flatten.drop (i * sz + off)).take s = (c.drop off).take s := by
          apply List.ext_getElem?
          intro j
          rw [List.getElem?_take, List.getElem?_take]
          split
          · rename_i hjs; rw [List.getElem?_drop]; exact hget j hjs
          · rfl
        rw [← h7]; exact h6
theorem DV.held {p : OP} {xs : List (List AV)} {v : Value} {F : List Nat} (h : DV P w (.sl xs) v F) (hl : ∀ b ∈ F, G.lab b = some (.own p)) : Held P G w p true xs v := by
  obtain ⟨e, sz, us, F', h1, h2, h3, rfl⟩ := h
  exact ⟨e, sz, us, F', h1, h2, (DVE_iff.1 h3).1, (DVE_iff.1 h3).2, hl⟩
theorem Held.path {p : OP} : ∀ {π : Path} {xs ys : List (List AV)} {u v : Value}, Held P G w p true xs u → getC xs π = some ys → At w G.lab p u π v → Held P G w p true ys v
  | [], xs, ys, u, v, h, hg, ha => by
    simp only [getC] at hg; cases hg
    rw [show v = u from ha]; exact h
  | (i, sz, o) :: π, xs, ys, u, v, h, hg, ⟨b, len, cap, v', h1, h2, h3, h4, h5⟩ => by
    simp only [getC] at hg
    split at hg
    · rename_i c hc
      split at hg
      · rename_i zs hs hz
        have hsz := Nat.eq_of_beq_eq_true hs
        obtain ⟨b', len', cap', e1, e2, e3, e4, h6⟩ := h.cell hc
        rw [h1] at e1; cases e1
        have ho : o < c.length := (List.getElem?_eq_some_iff.1 hz).1
        obtain ⟨vs, l1, c1, d1⟩ := h6 o 1 (by omega)
        have hx : ((c.drop o).take 1)[0]? = some (.sl zs) := by
          rw [List.getElem?_take, if_pos (by omega), List.getElem?_drop]; simpa using hz
        obtain ⟨v0, F, f1, f2, f3⟩ := d1 0 _ hx
        have := c1 0 v0 f1
        rw [Nat.add_zero, hsz, h4] at this
        cases this
        exact (f2.held f3).path hg h5
      · cases hg
    · cases hg
theorem cont_held (hI : Inv E L a w G) {p : OP} {π : Path} {dp : Bool} {xs : List (List AV)} {ob : List Prop} {h : Hint} (hc : contAt L p π h = some (dp, xs, ob)) (hob : ∀ q ∈ ob, q) {u : Value} (hu : At w G.lab p (G.pv p) π u) :
    Held E.P G w p dp xs u := by
  unfold contAt at hc
  split at hc
  · rename_i e dp' xs' hr
    obtain ⟨v, ho⟩ := rootO_own hI hr rfl
    have hv := ho.pv rfl
    subst hv
    have hh := own_held ho
    split at hc
    · cases hc
      rw [show u = G.pv p from hu]; exact hh
    · split at hc
      · cases hc
        exact hh.path (hob _ (by simp)) hu
      · cases hc
  · cases hc
end Go.Bv

namespace Go.Bv
open Go.RowKit
variable {E : Env} {P : Program} {n : Nat} {L L' : Look} {a : Act} {w w' : World} {G G' : Gho} {D D' : LP → Prop} {o : Oper} {d : Nat} {h : Hint} {ups : List Upd} {obs : List Prop}
theorem Inv.setSeen (hI : Inv E L a w G) (hd : d < E.n) {sv : SV} {u : Value} (hs : RelS G w sv u) {own : OwnL} (ho : ∀ j oe, (j, oe) ∈ own → ∃ c, (Value.flat u)[j]? = some c ∧ Own E.P G w (.t d j) oe c) : SR E (L.upds [.t d (sv, own)]) (a.put (some d) u) w :=
  ⟨G, hI.setT hd hs ho⟩
theorem dv_mask {X : Gh} {x : AV} {v : Value} {F : List Nat} (h : DV P w x v F) : Rel X w (mask1 x) v := by
  cases x with
  | int k m => exact h.1
  | bool b => exact h.1
  | str s => exact h.1
  | sl xs =>
    obtain ⟨e, sz, us, F', h1, h2, _⟩ := h
    rcases h2.2 with ⟨rfl, _⟩ | ⟨g, cap, cur, rfl, _⟩
    · exact ⟨_, _, _, rfl⟩
    · exact ⟨_, _, _, rfl⟩
  | undef => exact h.elim
  | agg _ => exact h.elim
  | tup _ => exact h.elim
  | vptr _ => exact h.elim
  | func _ _ => exact h.elim
  | mp _ _ => exact h.elim
  | slx => exact h.elim
  | raw _ => exact h.elim
theorem relL_mask {X : Gh} : ∀ {cs : List AV} {vs : List Value}, vs.length = cs.length → (∀ (j : Nat) (x : AV), cs[j]? = some x → ∃ v F, vs[j]? = some v ∧ DV P w x v F) → RelL X w (cs.map mask1) vs
  | [], [], _, _ => rfl
  | [], v :: vs, h, _ => by simp at h
  | c :: cs, [], h, _ => by simp at h
  | c :: cs, v :: vs, h, hh => by
    obtain ⟨v', F, h1, h2⟩ := hh 0 c rfl
    simp at h1; subst h1
    exact ⟨v, vs, rfl, dv_mask h2, relL_mask (by simpa using h) (fun j x hx => by simpa using hh (j + 1) x (by simpa using hx))⟩
theorem relL_mask2 {X : Gh} : ∀ {cs : List AV} {vs : List Value}, RelL X w cs vs → RelL X w (cs.map mask2) vs
  | [], vs, h => h
  | c :: cs, vs, ⟨v, r, e, h1, h2⟩ => by
    refine ⟨v, r, e, ?_, relL_mask2 h2⟩
    cases c with
    | raw q => exact h1.2
    | _ => exact h1
theorem s_load (hI : Inv E L a w G) (hd : o.dst = some d) (hlt : d < E.n) {T : TypeId} {x : Operand} (ho : o.op = .load T x) (hop : oLoad E.P L d T x h = some (ups, obs)) (hob : ∀ p ∈ obs, p) : Does E L o a w ups := by
  unfold oLoad at hop
  split at hop
  · -- a box
    rename_i ag s k off own1 hag hs hx
    have hu : a.eval x = .pointer (some ⟨G.bx k, off, none⟩) := ev_rel hI hx
    split at hop
    · rename_i cs own hb
      split at hop
      · rename_i v hfit hv
        obtain ⟨hf1, hf2⟩ := fitB_iff hfit
        obtain ⟨_, hX0, us, e, hheap, hok⟩ := hI.bo k _ hb
        have hlen := hok.rel.length
        have hrel2 : RelL G.X w (((cs.drop off).take s).map mask2) ((us.toList.drop off).take s) := relL_mask2 ((hok.rel.drop off).take s)
        have hl2 : ((us.toList.drop off).take s).length = s := by rw [List.length_take, List.length_drop, hlen]; omega
        have hc2 : CellsAt w (G.bx k) off ((us.toList.drop off).take s) := by
          intro j u hj
          rw [List.getElem?_take] at hj
          split at hj
          · rw [List.getElem?_drop] at hj
            rw [cell_row hheap]; simpa using hj
          · cases hj
        obtain ⟨u, hrun, hu2⟩ := run_loadVar (P := E.P) hag hs hl2 hc2 hf2
        have hexec : (execOp a.eval o).run E.P w = .ok (.value u) w := by simp [execOp, ho, hu, Instr.loadAt, Instr.sureAddr, hrun]
        have hv' := rel_ofCells hv hrel2 hu2
        -- a cell of what was read
        have hcell : ∀ j oe, (j, oe) ∈ cutO off s own → ∃ c, ((us.toList.drop off).take s)[j]? = some c ∧ Own E.P G w (.b k (off + j)) oe c := by
          intro j oe hj
          obtain ⟨h1, h2⟩ := mem_cutO hj
          obtain ⟨c, hc, hoc⟩ := hok.own _ _ h1
          refine ⟨c, ?_, hoc⟩
          rw [List.getElem?_take, if_pos h2, List.getElem?_drop]; simpa using hc
        have isSl : ∀ j c, ((us.toList.drop off).take s)[j]? = some c → (∃ A l q, c = Value.slice A l q) → (Value.flat u)[j]? = some c := fun j c hc hsl => flat_loaded hu2 hc (by
          rcases hf2 with h | h
          · exact .inl h
          · exact .inr hsl)
        have isS : ∀ {p : OP} {oe : OE} {c : Value}, Own E.P G w p oe c → ∃ A l q, c = Value.slice A l q := by
          intro p oe c hoc
          cases oe with
          | app e => exact own_slice hoc rfl
          | ex e dp xs => exact own_slice hoc rfl
          | al q π => exact hoc.2
          | sb q π lo sz n => obtain ⟨⟨A, cap', e⟩, _⟩ := hoc; exact ⟨_, _, _, e⟩
        split at hop
        · cases hop
          refine does_val hd hexec (hI.setSeen hlt (sv := .v v) hv' (fun j oe hj => ?_))
          have hj' : ∃ y, (j, y) ∈ cutO off s own := by
            rcases (seen_own hj).2 with h1 | ⟨_, y, h1, _⟩
            · exact ⟨_, h1⟩
            · exact ⟨y, h1⟩
          obtain ⟨y, hy⟩ := hj'
          obtain ⟨c, hc, hoc⟩ := hcell j y hy
          refine ⟨c, isSl j c hc (isS hoc), own_seen hj (fun z hz => ?_)⟩
          obtain ⟨c', hc', hoc'⟩ := hcell j z hz
          rw [hc] at hc'; cases hc'
          exact hoc'
        · split at hop
          · cases hop
          · rename_i hn
            cases hop
            simp only [Bool.or_eq_false_iff] at hn
            refine does_val hd hexec ?_
            obtain ⟨h1, av1⟩ := hI.clearBr (off := off) (s := s) hb hn.1
            obtain ⟨h2, av2⟩ := h1.fresh hlt
            have av1' : Av (DBr k off s) (Look.upds ((L.upd (.f (.b k))).upd (.b k (.cells cs (restO off s own)))) (fresh d)) := (av1.f (.t d)).setT trivial (fun j oe hj => by cases hj)
            have hS : Stp (fun q => DBr k off s q ∨ DR (.t d) q) w w G (G.hand (moveBT k off s d) (pvT G.pv d u)) := Stp.hand hI
              (fun p hp => by
                simp only [not_or] at hp
                cases p with
                | t i j => rfl
                | b i j => simp only [DBr] at hp; simp only [moveBT, if_neg hp.1]
                | a i j => rfl)
              (fun p hp => by simp only [not_or] at hp; exact pvT_ne hp.2) (fun i j => rfl)
            have h3 := h2.step' (av1'.or av2) hS
            refine ⟨_, h3.setT hlt (sv := .v v) hv' (fun j oe hj => ?_)⟩
            obtain ⟨c, hc, hoc⟩ := hcell j oe hj
            have hfl := isSl j c hc (isS hoc)
            refine ⟨c, hfl, ?_⟩
            cases hw : oe.owner with
            | true => exact hoc.hand hw (by
                have hj2 := (mem_cutO hj).2
                show (if k = k ∧ off ≤ off + j ∧ off + j < off + s then OP.t d (off + j - off) else OP.b k (off + j)) = _
                rw [if_pos ⟨rfl, by omega, by omega⟩, Nat.add_sub_cancel_left]) (pvT_eq hfl)
            | false =>
              refine (hS.own ?_ hoc).al_any hw
              have e1 : okE (DR (.b k)) (.b k (off + j)) oe := okE_ref (refsL_false hn.1 _ oe (mem_cutO hj).1) (fun h => by rw [hw] at h; cases h)
              exact (e1.mono (fun q hq => DBr_sub hq)).or (okE_ref (refsL_false hn.2 j oe hj) (fun h => by rw [hw] at h; cases h))
      · cases hop
    · cases hop
  · -- memory that stays
    rename_i ag s cs own1 hag hs hx
    obtain ⟨b, off, hu, hrc⟩ := ev_rel hI hx
    split at hop
    · rename_i v hfit hv
      obtain ⟨_, hf2⟩ := fitB_iff hfit
      have hle : s ≤ cs.length := one_obs hop hob _ (by simp)
      obtain ⟨us, h1, h2, h3⟩ := relC_cells (hrc.take s)
      have hl2 : us.length = s := by rw [h2, List.length_take]; omega
      obtain ⟨u, hrun, hu2⟩ := run_loadVar (P := E.P) hag hs hl2 h3 hf2
      refine does_val hd (v := u) (w' := w) ?_ (sr_one hI hlt hop hob (rel_ofCells hv h1 hu2))
      simp [execOp, ho, hu, Instr.loadAt, Instr.sureAddr, hrun]
    · cases hop
  · -- an element of a slice that is held
    rename_i ag s p π i sz off own1 hag hs hx
    obtain ⟨b, len, cap, hat, hlab, hilen, hu⟩ := ev_rel hI hx
    split at hop
    · rename_i dp xs ob v hc hv
      split at hop
      · rename_i hfit
        obtain ⟨_, hf2⟩ := fitB_iff hfit
        split at hop
        · cases hop
          have hh := cont_held hI hc (fun q hq => hob q (by simp [hq])) hat
          obtain ⟨c, hc1, hc2, hc3, hc4⟩ := hob _ (List.mem_append_right _ (List.mem_singleton.2 rfl))
          obtain ⟨b', len', cap', e1, e2, e3, e4, h6⟩ := hh.cell hc1
          cases e1
          obtain ⟨vs, l1, c1, d1⟩ := h6 off s hc3
          rw [hc2] at c1
          obtain ⟨u, hrun, hu2⟩ := run_loadVar (P := E.P) hag hs l1 c1 hf2
          have hlen' : vs.length = ((c.drop off).take s).length := by rw [l1, List.length_take, List.length_drop]; omega
          have hmask := relL_mask (X := G.X) hlen' (fun j x hj => by obtain ⟨v', F, h7, h8, _⟩ := d1 j x hj; exact ⟨v', F, h7, h8⟩)
          have hrel := rel_ofCells hc4 hmask hu2
          refine does_val hd (v := u) (w' := w) (by simp [execOp, ho, hu, Instr.loadAt, Instr.sureAddr, hrun]) (hI.setSeen hlt (sv := .v v) hrel (fun j oe hj => ?_))
          -- which cells these are
          have hmem : ∀ (cs : List AV) (k j : Nat) (oe : OE), (j, oe) ∈ alsOf p π i sz off k cs → ∃ q, j = k + q ∧ cs[q]? = some .slx ∧ oe = .al p (π ++ [(i, sz, off + j)]) := by
            intro cs
            induction cs with
            | nil => intro k j oe h; cases h
            | cons x cs ih =>
              intro k j oe h
              have tail : (j, oe) ∈ alsOf p π i sz off (k + 1) cs → ∃ q, j = k + q ∧ (x :: cs)[q]? = some .slx ∧ oe = .al p (π ++ [(i, sz, off + j)]) := by
                intro h
                obtain ⟨q, h1, h2, h3⟩ := ih (k + 1) j oe h
                exact ⟨q + 1, by omega, by simpa using h2, h3⟩
              cases x with
              | slx =>
                rcases List.mem_cons.1 h with h | h
                · cases h; exact ⟨0, rfl, rfl, rfl⟩
                · exact tail h
              | _ => exact tail h
          obtain ⟨q, hq1, hq2, rfl⟩ := hmem _ 0 j oe hj
          have hjq : j = q := by omega
          subst hjq
          -- the cell of the value is the masked cell
          have hvc : v.cells = ((c.drop off).take s).map mask1 := by
            cases hagv : ag with
            | true => rw [hagv] at hc4; simp only [ofCells, if_true, Option.some.injEq] at hc4; rw [← hc4]; rfl
            | false =>
              rw [hagv] at hc4
              unfold ofCells at hc4
              simp only [Bool.false_eq_true, if_false] at hc4
              split at hc4
              · rename_i z hz
                cases hc4
                rw [hz]
                have hne : ∀ q, v ≠ .agg q := by
                  rintro q rfl
                  have : (AV.agg q) ∈ (((c.drop off).take s).map mask1) := by rw [hz]; simp
                  obtain ⟨y, hy, e⟩ := List.mem_map.1 this
                  obtain ⟨jj, hjj⟩ := List.mem_iff_getElem?.1 hy
                  obtain ⟨v', F, _, h8, _⟩ := d1 jj y hjj
                  cases y <;> simp [mask1] at e
                  exact h8.elim
                cases v <;> first | rfl | exact absurd rfl (hne _)
              · cases hc4
          rw [hvc, List.getElem?_map, Option.map_eq_some_iff] at hq2
          obtain ⟨x, hx1, hx2⟩ := hq2
          obtain ⟨v', F, h7, h8, h9⟩ := d1 _ x hx1
          have hsl : ∃ ys, x = .sl ys := by cases x <;> simp [mask1] at hx2; exact ⟨_, rfl⟩; exact h8.elim
          obtain ⟨ys, rfl⟩ := hsl
          have hvs : ∃ A l k, v' = .slice A l k := by
            obtain ⟨e, sz', us, F', g1, g2, _⟩ := h8
            rcases g2.2 with ⟨rfl, _⟩ | ⟨g, cap, cur, rfl, _⟩ <;> exact ⟨_, _, _, rfl⟩
          refine ⟨v', flat_loaded hu2 h7 (hf2.imp id (fun _ => hvs)), ?_, hvs⟩
          refine hat.append ⟨b, len, cap, v', rfl, hlab, hilen, ?_, rfl⟩
          have := c1 _ v' h7
          rwa [Nat.add_assoc] at this
        · cases hop
          have hh := cont_held hI hc (fun q hq => hob q (by simp [hq])) hat
          obtain ⟨c, hc1, hc2, hc3, hc4⟩ := hob _ (List.mem_append_right _ (List.mem_singleton.2 rfl))
          obtain ⟨b', len', cap', e1, e2, e3, e4, h6⟩ := hh.cell hc1
          cases e1
          obtain ⟨vs, l1, c1, d1⟩ := h6 off s hc3
          rw [hc2] at c1
          obtain ⟨u, hrun, hu2⟩ := run_loadVar (P := E.P) hag hs l1 c1 hf2
          exact does_val hd (v := u) (w' := w) (by simp [execOp, ho, hu, Instr.loadAt, Instr.sureAddr, hrun]) (hI.setSeen hlt (sv := .v v) (rel_ofCells hc4 d1 hu2) (fun j oe hj => by cases hj))
      · cases hop
    · cases hop
  · cases hop
end Go.Bv

namespace Go.Bv
open Go.RowKit
variable {E : Env} {P : Program} {n : Nat} {L L' : Look} {a : Act} {w w' : World} {G G' : Gho} {D D' : LP → Prop} {o : Oper} {d : Nat} {h : Hint} {ups : List Upd} {obs : List Prop}
theorem Inv.set0 (hI : Inv E L a w G) (hd : d < E.n) {sv : SV} {u : Value} (hs : RelS G w sv u) : SR E (L.upds [.t d (sv, [])]) (a.put (some d) u) w :=
  hI.setSeen hd hs (fun j oe hj => by cases hj)
theorem s_fieldAddr (hI : Inv E L a w G) (hd : o.dst = some d) (hlt : d < E.n) {S : TypeId} {x : Operand} {f : Nat} (ho : o.op = .fieldAddr S x f) (hop : oFieldAddr E.P L d S x f = some (ups, obs)) : Does E L o a w ups := by
  unfold oFieldAddr at hop
  split at hop
  · rename_i off ft sv own hf hx
    split at hop
    · rename_i m hs
      split at hop
      · rename_i k p
        cases hop
        have hu : a.eval x = .pointer (some ⟨G.bx k, p, none⟩) := ev_rel hI hx
        exact does_val hd (v := .pointer (some ⟨G.bx k, p + off, none⟩)) (w' := w) (by simp [execOp, ho, hu, run_fieldAt hf hs]) (hI.set0 hlt (sv := .ptr k (p + off)) rfl)
      · rename_i cs
        cases hop
        obtain ⟨b, p, hu, hr⟩ := ev_rel hI hx
        exact does_val hd (v := .pointer (some ⟨b, p + off, none⟩)) (w' := w) (by simp [execOp, ho, hu, run_fieldAt hf hs]) (hI.set0 hlt (sv := .v (.vptr (cs.drop off))) ⟨b, p + off, rfl, hr.drop off⟩)
      · rename_i q π i sz p
        cases hop
        obtain ⟨b, len, cap, h1, h2, h3, hu⟩ := ev_rel hI hx
        exact does_val hd (v := .pointer (some ⟨b, i * sz + p + off, none⟩)) (w' := w) (by simp [execOp, ho, hu, run_fieldAt hf hs]) (hI.set0 hlt (sv := .el q π i sz (p + off)) ⟨b, len, cap, h1, h2, h3, by rw [Nat.add_assoc]⟩)
      · cases hop
    · cases hop
  · cases hop
theorem s_field (hI : Inv E L a w G) (hd : o.dst = some d) (hlt : d < E.n) {S : TypeId} {x : Operand} {f : Nat} (ho : o.op = .field S x f) (hop : oField E.P L d S x f = some (ups, obs)) : Does E L o a w ups := by
  unfold oField at hop
  split at hop
  · rename_i off ft t hf
    split at hop
    · rename_i cs own ht
      split at hop
      · rename_i s ag hs hag
        split at hop
        · rename_i v hfit hv
          cases hop
          obtain ⟨hf1, hf2⟩ := fitB_iff hfit
          obtain ⟨_, ⟨us, hu, hr⟩, hoo⟩ := hI.tm t _ _ ht
          have hl := hr.length
          obtain ⟨u, hrun, hu2⟩ := run_part (P := E.P) (w := w) (us := us) (off := off) hag hs (by omega) hf2
          obtain ⟨fs, fd, h1, h2, rfl, rfl⟩ := fieldP_spec hf
          have hu' : a.eval (.tmp t) = .agg us.toArray := hu
          refine does_val hd (v := u) (w' := w) (by simp [execOp, ho, hu', Instr.field, run_und h1, h2, asAgg, hrun]) (hI.setSeen hlt (sv := .v v) (rel_ofCells hv ((hr.drop _).take s) hu2) (fun j oe hj => ?_))
          have isS : ∀ {p : OP} {oe : OE} {c : Value}, Own E.P G w p oe c → ∃ A l q, c = Value.slice A l q := by
            intro p oe c hoc
            cases oe with
            | app e => exact own_slice hoc rfl
            | ex e dp xs => exact own_slice hoc rfl
            | al q π => exact hoc.2
            | sb q π lo sz n => obtain ⟨⟨A, cap', e⟩, _⟩ := hoc; exact ⟨_, _, _, e⟩
          have hcell : ∀ y, (j, y) ∈ cutO fd.offset s own → ∃ c, ((us.drop fd.offset).take s)[j]? = some c ∧ Own E.P G w (.t t (fd.offset + j)) y c := by
            intro y hy
            obtain ⟨h3, h4⟩ := mem_cutO hy
            obtain ⟨c, hc, hoc⟩ := hoo _ _ h3
            rw [hu] at hc
            refine ⟨c, ?_, hoc⟩
            rw [List.getElem?_take, if_pos h4, List.getElem?_drop]
            simpa [Value.flat, Value.cells] using hc
          have hj' : ∃ y, (j, y) ∈ cutO fd.offset s own := by
            rcases (seen_own hj).2 with h1 | ⟨_, y, h1, _⟩
            · exact ⟨_, h1⟩
            · exact ⟨y, h1⟩
          obtain ⟨y, hy⟩ := hj'
          obtain ⟨c, hc, hoc⟩ := hcell y hy
          refine ⟨c, flat_loaded hu2 hc (hf2.imp id (fun _ => isS hoc)), own_seen hj (fun z hz => ?_)⟩
          obtain ⟨c', hc', hoc'⟩ := hcell z hz
          rw [hc] at hc'; cases hc'
          exact hoc'
        · cases hop
      · cases hop
    · cases hop
  · cases hop
inductive Sliced (P : Program) (G : Gho) (w : World) : SlV → Value → Prop where
  | plain {xs : List (List AV)} {u : Value} (h : Rel G.X w (.sl xs) u) : Sliced P G w (.plain xs) u
  | held {p : OP} {π : Path} {u : Value} (h : At w G.lab p (G.pv p) π u) (hs : ∃ A l k, u = .slice A l k) : Sliced P G w (.held p π) u
  | part {p : OP} {π : Path} {lo sz n : Nat} {u : Value} (h : ∀ q, Own P G w q (.sb p π lo sz n) u) : Sliced P G w (.part p π lo sz n) u
theorem sliceOf_spec (hI : Inv E L a w G) {x : Operand} {s : SlV} (h : sliceOf L x = some s) : Sliced E.P G w s (a.eval x) := by
  cases x with
  | tmp t =>
    simp only [sliceOf] at h
    split at h
    · rename_i xs own ht
      cases h
      exact .plain (hI.tm t _ _ ht).2.1
    · rename_i own ht
      obtain ⟨_, hr, hoo⟩ := hI.tm t _ _ ht
      obtain ⟨A, l, k, hu⟩ := hr
      have hu' : a.eval (.tmp t) = .slice A l k := hu
      have h0 : ∀ {oe : OE}, lkO own 0 = some oe → Own E.P G w (.t t 0) oe (a.eval (.tmp t)) := by
        intro oe h0
        obtain ⟨u, hu2, hoc⟩ := hoo 0 oe (lkO_mem h0)
        rw [hu] at hu2
        simp [Value.flat, Value.cells] at hu2
        rw [hu', hu2]; exact hoc
      split at h
      · rename_i h1
        cases h
        exact .held ((h0 h1).pv rfl).symm ⟨A, l, k, hu'⟩
      · rename_i h1
        cases h
        exact .held (h0 h1).1 (h0 h1).2
      · rename_i h1
        cases h
        exact .part (fun q => (h0 h1).al_any rfl)
      · cases h
    · cases h
  | const v =>
    simp only [sliceOf] at h
    split at h
    · rename_i heq
      cases heq
    · rename_i heq
      cases heq
      cases h
      exact .plain ⟨none, 0, 0, rfl, rfl, Nat.le_refl _, .inl rfl⟩
    · cases h
  | func f => cases h
  | global g => cases h
theorem s_indexAddr (hI : Inv E L a w G) (hd : o.dst = some d) (hlt : d < E.n) {T : TypeId} {x i : Operand} (ho : o.op = .indexAddr T x i) (hop : oIndexAddr E.P L d T x i h = some (ups, obs)) (hob : ∀ p ∈ obs, p) : Does E L o a w ups := by
  unfold oIndexAddr at hop
  split at hop
  · rename_i e k m he hi
    have hv : a.eval i = .int k m := evV_rel hI hi
    have hT := elemP_spec he
    split at hop
    · rename_i s xs hs hx
      split at hop
      · rename_i c hh
        cases hop
        obtain ⟨h0, h1, h2⟩ := hob _ (List.mem_singleton.2 rfl)
        cases sliceOf_spec hI hx with
        | plain hr =>
          obtain ⟨A, len, cap, hu, hl, hc, hr⟩ := hr
          have hlt2 : m.toNat < xs.length := (List.getElem?_eq_some_iff.1 h1).1
          rcases hr with hr | ⟨b, off, sz, hA, hr⟩
          · subst hr; simp at hlt2
          · obtain ⟨hsz, hrc⟩ := hr.get _ h1
            have : sz = s := by omega
            subst this
            subst hA
            subst hl
            have hlt3 : m < (xs.length : Int) := by omega
            refine does_val hd (v := .pointer (some ⟨b, off + m.toNat * sz, none⟩)) (w' := w) ?_ (hI.set0 hlt (sv := .v (.vptr c)) ⟨b, _, rfl, hrc⟩)
            simp [execOp, ho, hu, hv, Instr.indexAt, asIntOf, run_und hT, h0, hlt3, run_sizeOf hs, add_lit]
      · cases hop
    · rename_i s p π hs hx
      split at hop
      · rename_i dp xs ob hc
        cases hop
        obtain ⟨h0, c, h1, h2⟩ := hob _ (List.mem_append_right _ (List.mem_singleton.2 rfl))
        cases sliceOf_spec hI hx with
        | held hat hs' =>
          have hh := cont_held hI hc (fun q hq => hob q (by simp [hq])) hat
          obtain ⟨b, len, cap, e1, e2, e3, e4, _⟩ := hh.cell h1
          rw [e1] at hat
          have hlt3 : m < (len : Int) := by omega
          refine does_val hd (v := .pointer (some ⟨b, m.toNat * s, none⟩)) (w' := w) ?_ (hI.set0 hlt (sv := .el p π m.toNat s 0) ⟨b, len, cap, hat, e2, e4, rfl⟩)
          simp [execOp, ho, e1, hv, Instr.indexAt, asIntOf, run_und hT, h0, hlt3, run_sizeOf hs, add_lit]
      · cases hop
    · rename_i s p π lo sz n hs hx
      split at hop
      · rename_i hsz
        have hsz := Nat.eq_of_beq_eq_true hsz
        subst hsz
        cases hop
        obtain ⟨h0, h1⟩ := hob _ (List.mem_singleton.2 rfl)
        cases sliceOf_spec hI hx with
        | part hp =>
          have hn : n ≠ 0 := by omega
          obtain ⟨b, len, cap, cap', h2, h3, h4, hu⟩ := (hp (.t 0 0)).2.resolve_left hn
          have hlt3 : m < (n : Int) := by omega
          refine does_val hd (v := .pointer (some ⟨b, lo * sz + m.toNat * sz, none⟩)) (w' := w) ?_ (hI.set0 hlt (sv := .el p π (lo + m.toNat) sz 0) ⟨b, len, cap, h2, h3, by omega, by rw [Nat.add_mul]; rfl⟩)
          simp [execOp, ho, hu, hv, Instr.indexAt, asIntOf, run_und hT, h0, hlt3, run_sizeOf hs, add_lit]
      · cases hop
    · cases hop
  · cases hop
theorem isStr_und {T : TypeId} (hT : isStrP P T = true) : P.underlying T = some .string := by
  unfold isStrP at hT; split at hT
  · assumption
  · cases hT
theorem s_index (hI : Inv E L a w G) (hd : o.dst = some d) (hlt : d < E.n) {T : TypeId} {x i : Operand} (ho : o.op = .index T x i) (hop : oIndex E.P L d T x i h = some (ups, obs)) (hob : ∀ p ∈ obs, p) : Does E L o a w ups := by
  unfold oIndex at hop
  split at hop
  · rename_i s k m hT hx hi
    have hu : a.eval x = .string s := evV_rel hI hx
    have hv : a.eval i = .int k m := evV_rel hI hi
    obtain ⟨h0, h1⟩ := one_obs hop hob (0 ≤ m ∧ m.toNat < s.size) (by simp)
    have hg : s[m.toNat]? = some (s[m.toNat]'h1) := by simp [h1]
    refine does_val hd (v := .int .u8 (bt s m)) (w' := w) ?_ (sr_one hI hlt hop hob rfl)
    simp [execOp, ho, hu, hv, Instr.index, asIntOf, run_und (isStr_und hT), h0, hg, bt]
  · cases hop
theorem s_binOp (hI : Inv E L a w G) (hd : o.dst = some d) (hlt : d < E.n) {op : BinOp} {T T' : TypeId} {x y : Operand} (ho : o.op = .binOp op T x y T') (hop : oBin E.P L d op T x y h = some (ups, obs)) (hob : ∀ p ∈ obs, p) : Does E L o a w ups := by
  unfold oBin at hop
  split at hop
  · rename_i k m k' m' hx hy
    have hu : a.eval x = .int k m := evV_rel hI hx
    have hv : a.eval y = .int k' m' := evV_rel hI hy
    split at hop
    · split at hop
      · rename_i hk
        subst hk
        have hb : m' ≠ 0 := one_obs hop hob _ (by simp)
        refine does_val hd (v := .int k (k.wrap (m.tdiv m'))) (w' := w) ?_ (sr_one hI hlt hop hob rfl)
        simp [execOp, ho, hu, hv, run_guard_int, binOp, Op.intDiv, hb]
      · cases hop
    · split at hop
      · rename_i hk
        subst hk
        have hb : m' ≠ 0 := one_obs hop hob _ (by simp)
        refine does_val hd (v := .int k (m.tmod m')) (w' := w) ?_ (sr_one hI hlt hop hob rfl)
        simp [execOp, ho, hu, hv, run_guard_int, binOp, Op.intDiv, hb]
      · cases hop
    · cases hop
    · cases hop
    · rename_i q1 q2 q3 q4
      split at hop
      · rename_i hk
        subst hk
        split at hop
        · rename_i v hv'
          obtain ⟨u, hr, hrel⟩ := run_binI (P := E.P) (w := w) (X := G.X) (T := T) hv' q1 q2 q3 q4
          refine does_val hd (v := u) (w' := w) ?_ (sr_one hI hlt hop hob hrel)
          simp [execOp, ho, hu, hv, run_guard_int, hr]
        · cases hop
      · cases hop
  · rename_i m m' hx hy
    have hu : a.eval x = .string m := evV_rel hI hx
    have hv : a.eval y = .string m' := evV_rel hI hy
    split at hop
    · have hb : sumOk m m' := one_obs hop hob _ (by simp)
      refine does_val hd (v := .string (m ++ m')) (w' := w) ?_ (sr_one hI hlt hop hob rfl)
      have hb' : (m.size : Int) + (m'.size : Int) ≤ 9223372036854775807 := by
        unfold sumOk at hb; omega
      have e : IntKind.i64.max = 9223372036854775807 := rfl
      simp [execOp, ho, hu, hv, run_guard_str, binOp, Op.stringOp, e, hb']
    · split at hop
      · rename_i v hv'
        obtain ⟨u, hr, hrel⟩ := run_binS (P := E.P) (w := w) (X := G.X) (T := T) hv'
        refine does_val hd (v := u) (w' := w) ?_ (sr_one hI hlt hop hob hrel)
        simp [execOp, ho, hu, hv, run_guard_str, hr]
      · cases hop
  · rename_i m m' hx hy
    have hu : a.eval x = .bool m := evV_rel hI hx
    have hv : a.eval y = .bool m' := evV_rel hI hy
    split at hop
    · rename_i hT
      refine does_val hd (v := .bool (m == m')) (w' := w) ?_ (sr_one hI hlt hop hob rfl)
      simp [execOp, ho, hu, hv, run_guard_bool, run_eql_bool hT, run_neq_bool hT]
    · rename_i hT
      refine does_val hd (v := .bool (!(m == m'))) (w' := w) ?_ (sr_one hI hlt hop hob rfl)
      simp [execOp, ho, hu, hv, run_guard_bool, run_eql_bool hT, run_neq_bool hT]
    · cases hop
  · cases hop
theorem s_unOp (hI : Inv E L a w G) (hd : o.dst = some d) (hlt : d < E.n) {op : UnOp} {T : TypeId} {x : Operand} (ho : o.op = .unOp op T x) (hop : oUn L d op x h = some (ups, obs)) (hob : ∀ p ∈ obs, p) : Does E L o a w ups := by
  unfold oUn at hop
  split at hop
  · rename_i k m hx
    have hu : a.eval x = .int k m := evV_rel hI hx
    refine does_val hd (v := .int k (k.wrap (0 - m))) (w' := w) ?_ (sr_one hI hlt hop hob rfl)
    simp [execOp, ho, hu, Op.unary, Op.intArith]
  · rename_i m hx
    have hu : a.eval x = .bool m := evV_rel hI hx
    refine does_val hd (v := .bool (!m)) (w' := w) ?_ (sr_one hI hlt hop hob rfl)
    simp [execOp, ho, hu, Op.unary]
  · cases hop
theorem s_convert (hI : Inv E L a w G) (hd : o.dst = some d) (hlt : d < E.n) {S T : TypeId} {x : Operand} (ho : o.op = .convert S T x) (hop : oConvert E.P L d S T x h = some (ups, obs)) (hob : ∀ p ∈ obs, p) : Does E L o a w ups := by
  unfold oConvert at hop
  split at hop
  · rename_i k m hx
    have hu : a.eval x = .int k m := evV_rel hI hx
    split at hop
    · rename_i k' hk' hs
      obtain ⟨ds, hs⟩ := Option.isSome_iff_exists.1 hs
      have hT : E.P.underlying T = some (.int k') := by
        unfold intOfP at hk'; split at hk'
        · cases hk'; assumption
        · cases hk'
      refine does_val hd (v := .int k' (k'.wrap m)) (w' := w) ?_ (sr_one hI hlt hop hob rfl)
      cases ds <;> simp [execOp, ho, hu, convert, run_und hs, run_und hT, Conv.intToInt]
    · cases hop
  · rename_i m hx
    have hu : a.eval x = .string m := evV_rel hI hx
    split at hop
    · rename_i hs
      simp only [Bool.and_eq_true] at hs
      refine does_val hd (v := .string m) (w' := w) ?_ (sr_one hI hlt hop hob rfl)
      simp [execOp, ho, hu, convert, run_und (isStr_und hs.1), run_und (isStr_und hs.2)]
    · cases hop
  · cases hop
theorem s_nilCheck (hI : Inv E L a w G) (hd : o.dst = some d) (hlt : d < E.n) {x : Operand} (ho : o.op = .nilCheck x) (hop : oNil L d x = some (ups, obs)) : Does E L o a w ups := by
  unfold oNil at hop
  split at hop
  · rename_i k off own hc
    cases hop
    have hu : a.eval x = .pointer (some ⟨G.bx k, off, none⟩) := ev_rel hI hc
    exact does_val hd (v := a.eval x) (w' := w) (by simp [execOp, ho, hu]) (hI.set0 hlt (sv := .ptr k off) hu)
  · rename_i cs own hc
    cases hop
    obtain ⟨b, f, hu, _⟩ := ev_rel hI hc
    exact does_val hd (v := a.eval x) (w' := w) (by simp [execOp, ho, hu]) (hI.set0 hlt (ev_rel hI hc))
  · rename_i p π i sz off own hc
    cases hop
    obtain ⟨b, len, cap, _, _, _, hu⟩ := ev_rel hI hc
    exact does_val hd (v := a.eval x) (w' := w) (by simp [execOp, ho, hu]) (hI.set0 hlt (ev_rel hI hc))
  · cases hop
theorem s_pick (hI : Inv E L a w G) (hd : o.dst = some d) (hlt : d < E.n) {c x y : Operand} (ho : o.op = .pick c x y)
    (hop : (match evV L c with | some (.bool true) => oSeen L d x | some (.bool false) => oSeen L d y | _ => none) = some (ups, obs)) : Does E L o a w ups := by
  split at hop
  · rename_i hc
    have hc' := evV_rel hI hc
    exact does_val hd (v := a.eval x) (w' := w) (by simp [execOp, ho, show a.eval c = .bool true from hc', asBool]) (s_seen hI hlt hop)
  · rename_i hc
    have hc' := evV_rel hI hc
    exact does_val hd (v := a.eval y) (w' := w) (by simp [execOp, ho, show a.eval c = .bool false from hc', asBool]) (s_seen hI hlt hop)
  · cases hop
theorem s_makeFunc (hI : Inv E L a w G) (hd : o.dst = some d) (hlt : d < E.n) {fn : Fn} {first captured : Array Operand} (ho : o.op = .makeFunc fn first captured) (hop : oMakeFunc L d fn first.toList captured.toList = some (ups, obs)) : Does E L o a w ups := by
  unfold oMakeFunc at hop
  split at hop
  · rename_i f caps hf hc
    cases hop
    have hr := evVs_rel hI hc
    refine does_val hd (v := .func (.func f) #[] (captured.map a.eval)) (w' := w) ?_ (hI.set0 hlt (sv := .v (.func f caps)) ⟨captured.toList.map a.eval, by congr 1; apply Array.ext'; simp, hr⟩)
    have : first = #[] := by apply Array.ext'; simpa using hf
    simp [execOp, ho, Instr.makeFunc, this]
  · cases hop
end Go.Bv

namespace Go.Bv
open Go.RowKit
variable {E : Env} {P : Program} {n : Nat} {L L' : Look} {a : Act} {w w' : World} {G G' : Gho} {D D' : LP → Prop} {o : Oper} {d : Nat} {h : Hint} {ups : List Upd} {obs : List Prop}
theorem own_isSlice {p : OP} {oe : OE} {c : Value} (hoc : Own P G w p oe c) : ∃ A l q, c = Value.slice A l q := by
  cases oe with
  | app e => exact own_slice hoc rfl
  | ex e dp xs => exact own_slice hoc rfl
  | al q π => exact hoc.2
  | sb q π lo sz n => obtain ⟨⟨A, cap', e⟩, _⟩ := hoc; exact ⟨_, _, _, e⟩
def moveTT' (t off s d : Nat) : OP → OP
  | .t i j => if i = t ∧ off ≤ j ∧ j < off + s then .t d (j - off) else .t i j
  | p => p
def DTr (t off s : Nat) : LP → Prop
  | .own (.t i j) => i = t ∧ off ≤ j ∧ j < off + s
  | _ => False
theorem DTr_sub {k off s : Nat} {q : LP} (h : DTr k off s q) : DR (.t k) q := by
  cases q with
  | box d => exact h
  | ptr d => exact h
  | arg i j => exact h
  | own p =>
    cases p with
    | t s j => exact h.1
    | b i j => exact h
    | a i j => exact h
theorem Inv.clearTr (hI : Inv E L a w G) {t off s : Nat} {y : AV} {own : OwnL} (ht : L.t t = some (.v y, own)) (hn : refsL (.t t) own = false) :
    Inv E ((L.upd (.f (.t t))).upd (.t t (.v y, restO off s own))) a w G ∧ Av (DTr t off s) ((L.upd (.f (.t t))).upd (.t t (.v y, restO off s own))) := by
  obtain ⟨h1, h2, h3⟩ := hI.tm t _ _ ht
  refine ⟨(hI.forget (.t t)).setT' h1 h2 (fun j oe hj => h3 j oe (mem_restO hj).1), ?_⟩
  have key : Av (DTr t off s) ((L.upd (.f (.t t))).upd (.t t (.v y, []))) := (Av.clear t).mono (fun q hq => DTr_sub hq)
  refine ⟨?_, fun k x hk => key.b k x hk, fun i own hi => key.g i own hi⟩
  intro k sv own' hk
  by_cases e : k = t
  · subst e
    rw [upd_t_same] at hk
    cases hk
    refine ⟨trivial, fun j oe hj => ?_⟩
    obtain ⟨hj1, hj2⟩ := mem_restO hj
    have hr := refsL_false hn j oe hj1
    cases oe with
    | app e => exact fun hd => hj2 hd.2
    | ex e dp xs => exact fun hd => hj2 hd.2
    | al q π => exact okE_al hr fun hd => DTr_sub hd
    | sb q π lo sz n => intro hd; have := DR_inn (DTr_sub hd); simp [OE.refs, this.1, this.2] at hr
  · rw [upd_t_ne e] at hk
    exact key.t k sv own' (by rw [upd_t_ne e]; exact hk)
theorem RelL.comps {X : Gh} : ∀ {vs : List AV} {us : List Value} (i : Nat) {v : AV} {u : Value}, RelL X w vs us → vs[i]? = some v → us[i]? = some u → (∀ k x, k < i → vs[k]? = some x → x.solid = true) →
    ∀ j c, v.solid = true → (us.flatMap fun v => v.cells.toList)[sizesTo vs i + j]? = some c → j < v.cells.length → u.cells.toList[j]? = some c
  | [], _, _, _, _, _, h, _, _, _, _, _, _, _ => by simp at h
  | x :: vs, _, 0, v, u, ⟨u', r, e, h1, h2⟩, hv, hu, _, j, c, hs, hc, hj => by
    subst e
    simp at hv hu
    subst hv; subst hu
    have hl := (rel_solid h1 hs).length
    simp only [sizesTo, Nat.zero_add, List.flatMap_cons] at hc
    rwa [List.getElem?_append_left (by omega)] at hc
  | x :: vs, _, i + 1, v, u, ⟨u', r, e, h1, h2⟩, hv, hu, hsol, j, c, hs, hc, hj => by
    subst e
    have hx := hsol 0 x (by omega) rfl
    have hl := (rel_solid h1 hx).length
    simp only [sizesTo, List.flatMap_cons] at hc
    rw [List.getElem?_append_right (by omega), show x.cells.length + sizesTo vs i + j - u'.cells.toList.length = sizesTo vs i + j by omega] at hc
    exact RelL.comps i h2 (by simpa using hv) (by simpa using hu) (fun k y hk hy => hsol (k + 1) y (by omega) (by simpa using hy)) j c hs hc hj
theorem s_extract (hI : Inv E L a w G) (hd : o.dst = some d) (hlt : d < E.n) {x : Operand} {i : Nat} (ho : o.op = .extract x i) (hop : oExtract L d x i h = some (ups, obs)) : Does E L o a w ups := by
  unfold oExtract at hop
  split at hop
  · rename_i t
    split at hop
    · rename_i vs own ht
      obtain ⟨_, ⟨us, hu, hr⟩, hoo⟩ := hI.tm t _ _ ht
      have hu' : a.eval (.tmp t) = .tuple us.toArray := hu
      split at hop
      · rename_i v hv
        obtain ⟨u, hui, hrel⟩ := hr.get i hv
        have hexec : (execOp a.eval o).run E.P w = .ok (.value u) w := by simp [execOp, ho, hu', Instr.extract, hui]
        have cell : v.solid = true → (vs.take i).all AV.solid = true → ∀ j oe, (j, oe) ∈ cutO (sizesTo vs i) v.cells.length own → ∃ c, (Value.flat u)[j]? = some c ∧ Own E.P G w (.t t (sizesTo vs i + j)) oe c := by
          intro hs hall j oe hj
          obtain ⟨h1, h2⟩ := mem_cutO hj
          obtain ⟨c, hc, hoc⟩ := hoo _ _ h1
          refine ⟨c, ?_, hoc⟩
          rw [hu] at hc
          rw [flat_cells (rel_notuple hrel hs)]
          refine RelL.comps i hr hv hui (fun k x hk hx => ?_) j c hs (by simpa [Value.flat] using hc) h2
          rw [List.all_eq_true] at hall
          exact hall x (List.mem_iff_getElem?.2 ⟨k, by rw [List.getElem?_take, if_pos hk]; exact hx⟩)
        split at hop
        · rename_i e1 e2 hs htk
          split at hop
          · rename_i hall
            cases hop
            refine does_val hd hexec (hI.setSeen hlt (sv := .v v) hrel (fun j oe hj => ?_))
            have hj' : ∃ y, (j, y) ∈ cutO (sizesTo vs i) v.cells.length own := by
              rcases (seen_own hj).2 with h1 | ⟨_, y, h1, _⟩
              · exact ⟨_, h1⟩
              · exact ⟨y, h1⟩
            obtain ⟨y, hy⟩ := hj'
            obtain ⟨c, hc, hoc⟩ := cell hs hall j y hy
            refine ⟨c, hc, own_seen hj (fun z hz => ?_)⟩
            obtain ⟨c', hc', hoc'⟩ := cell hs hall j z hz
            rw [hc] at hc'; cases hc'
            exact hoc'
          · cases hop
        · rename_i e1 e2 hs htk
          split at hop
          · cases hop
          · rename_i hn
            simp only [Bool.or_eq_false_iff] at hn
            obtain ⟨⟨⟨hn1, hn2⟩, hn3⟩, hn4⟩ := hn
            cases hop
            have hall : (vs.take i).all AV.solid = true := by simpa using hn4
            have htd : t ≠ d := beq_false hn3
            refine does_val hd hexec ?_
            obtain ⟨h1, av1⟩ := hI.clearTr (off := sizesTo vs i) (s := v.cells.length) ht hn1
            obtain ⟨h2, av2⟩ := h1.fresh hlt
            have av1' : Av (DTr t (sizesTo vs i) v.cells.length) (Look.upds ((L.upd (.f (.t t))).upd (.t t (.v (.tup vs), restO (sizesTo vs i) v.cells.length own))) (fresh d)) := (av1.f (.t d)).setT trivial (fun j oe hj => by cases hj)
            have hS : Stp (fun q => DTr t (sizesTo vs i) v.cells.length q ∨ DR (.t d) q) w w G (G.hand (moveTT' t (sizesTo vs i) v.cells.length d) (pvT G.pv d u)) := Stp.hand hI
              (fun p hp => by
                simp only [not_or] at hp
                cases p with
                | b i j => rfl
                | t i j => simp only [DTr] at hp; simp only [moveTT', if_neg hp.1]
                | a i j => rfl)
              (fun p hp => by simp only [not_or] at hp; exact pvT_ne hp.2) (fun i j => rfl)
            have h3 := h2.step' (av1'.or av2) hS
            refine ⟨_, h3.setT hlt (sv := .v v) hrel (fun j oe hj => ?_)⟩
            obtain ⟨c, hc, hoc⟩ := cell hs hall j oe hj
            refine ⟨c, hc, ?_⟩
            cases hw : oe.owner with
            | true =>
              have hj2 := (mem_cutO hj).2
              exact hoc.hand hw (by
                show (if t = t ∧ sizesTo vs i ≤ sizesTo vs i + j ∧ sizesTo vs i + j < sizesTo vs i + v.cells.length then OP.t d (sizesTo vs i + j - sizesTo vs i) else OP.t t (sizesTo vs i + j)) = _
                rw [if_pos ⟨rfl, by omega, by omega⟩, Nat.add_sub_cancel_left]) (pvT_eq hc)
            | false =>
              refine (hS.own ?_ hoc).al_any hw
              have e1 : okE (DR (.t t)) (.t t (sizesTo vs i + j)) oe := okE_ref (refsL_false hn1 _ oe (mem_cutO hj).1) (fun h => by rw [hw] at h; cases h)
              exact (e1.mono (fun q hq => DTr_sub hq)).or (okE_ref (refsL_false hn2 j oe hj) (fun h => by rw [hw] at h; cases h))
        · split at hop
          · cases hop
            exact does_val hd hexec (hI.set0 hlt (sv := .v v) hrel)
          · cases hop
      · cases hop
    · cases hop
  · cases hop
theorem optInt_spec (hI : Inv E L a w G) {x : Option Operand} {l : Option Int} (h : optInt L x = some l) : (x = none ∧ l = none) ∨ ∃ y k m, x = some y ∧ l = some m ∧ a.eval y = .int k m := by
  cases x with
  | none => simp [optInt] at h; subst h; exact .inl ⟨rfl, rfl⟩
  | some y =>
    simp only [optInt] at h
    split at h
    · rename_i k m hy
      cases h
      exact .inr ⟨y, k, m, rfl, rfl, evV_rel hI hy⟩
    · cases h
theorem run_bounds (hI : Inv E L a w G) {lo hi : Option Operand} {l hh : Option Int} (hl : optInt L lo = some l) (hhi : optInt L hi = some hh) (b : Bool) (len cap : Nat)
    (h1 : 0 ≤ l.getD 0) (h2 : l.getD 0 ≤ hh.getD len) (h3 : hh.getD len ≤ (len : Int)) (h4 : len ≤ cap) :
    (Instr.sliceBounds b len cap (lo.map a.eval) (hi.map a.eval) none).run P w = .ok ((l.getD 0).toNat, (hh.getD len).toNat, cap) w := by
  rcases optInt_spec hI hl with ⟨rfl, rfl⟩ | ⟨y, k, m, rfl, rfl, e1⟩ <;> rcases optInt_spec hI hhi with ⟨rfl, rfl⟩ | ⟨y2, k2, m2, rfl, rfl, e2⟩ <;> simp only [Option.getD_some, Option.getD_none] at h1 h2 h3 ⊢
  · simp [Instr.sliceBounds]
  · cases b <;> simp [Instr.sliceBounds, e2, run_bound h2 (show m2 ≤ (cap : Int) by omega)]
  · cases b <;> simp [Instr.sliceBounds, e1, run_bound h1 h2]
  · have h5 : m ≤ (m2.toNat : Int) := by omega
    cases b <;> simp [Instr.sliceBounds, e1, e2, run_bound (show 0 ≤ m2 by omega) (show m2 ≤ (cap : Int) by omega), run_bound h1 h5]
theorem ownsRow_take {base sz n k : Nat} {e : TypeId} {u : Value} {us : List Value} (h : w.ownsRow base e sz u n us) (hk : k ≤ n) :
    ∃ u', (∀ A l c, u = .slice A l c → u' = .slice A k c) ∧ w.ownsRow base e sz u' k (us.take (k * sz)) ∧ blks u' = blks u := by
  have hmul : k * sz ≤ n * sz := Nat.mul_le_mul_right sz hk
  rcases h.2 with ⟨rfl, h0⟩ | ⟨g, cap, cur, rfl, h1, h2, h3, h4, h5, h6⟩
  · have : k = 0 := by omega
    subst this
    have hus : us = [] := List.eq_nil_of_length_eq_zero (by rw [h.1, h0]; simp)
    subst hus
    exact ⟨.slice none 0 0, fun A l c e => by cases e; rfl, by simpa using World.ownsRow_nil w base e sz, rfl⟩
  · refine ⟨.slice (some ⟨g, 0, none⟩) k cap, fun A l c e => by cases e; rfl, ⟨by rw [List.length_take, h.1]; omega, .inr ⟨g, cap, cur, rfl, h1, h2, by omega, h4, h5, ?_⟩⟩, rfl⟩
    rw [← h6, List.take_take]; congr 1; omega
theorem flatten_take {α : Type} {xs : List (List α)} {sz k : Nat} (hl : ∀ c ∈ xs, c.length = sz) (hk : k ≤ xs.length) : xs.flatten.take (k * sz) = (xs.take k).flatten := by
  induction xs generalizing k with
  | nil => have : k = 0 := by simpa using hk
           subst this; simp
  | cons x xs ih =>
    cases k with
    | zero => simp
    | succ k =>
      have hx := hl x (by simp)
      rw [List.flatten_cons, List.take_succ_cons, List.flatten_cons, Nat.add_mul, Nat.one_mul, Nat.add_comm, ← hx, List.take_length_add_append]
      rw [hx, ih (fun c hc => hl c (by simp [hc])) (by simpa using hk)]
theorem DVL.take : ∀ (k : Nat) {cs : List AV} {us : List Value} {F : List Nat}, DVL P w cs us F → ∃ F', DVL P w (cs.take k) (us.take k) F' ∧ F'.Sublist F
  | 0, _, _, _, _ => ⟨[], ⟨rfl, rfl⟩, List.nil_sublist _⟩
  | k + 1, [], _, _, ⟨e, e2⟩ => by subst e; subst e2; exact ⟨[], ⟨rfl, rfl⟩, List.nil_sublist _⟩
  | k + 1, c :: cs, _, _, ⟨u, r, F1, F2, e, e2, a, b⟩ => by
    subst e; subst e2
    obtain ⟨F', h1, h2⟩ := DVL.take k b
    exact ⟨F1 ++ F', ⟨u, _, F1, F', rfl, rfl, a, h1⟩, h2.append_left _⟩
theorem s_slice (hI : Inv E L a w G) (hd : o.dst = some d) (hlt : d < E.n) {T : TypeId} {x : Operand} {lo hi : Option Operand} (ho : o.op = .slice T x lo hi none) (hop : oSlice E.P L d T x lo hi h = some (ups, obs)) (hob : ∀ p ∈ obs, p) : Does E L o a w ups := by
  unfold oSlice at hop
  split at hop
  · rename_i l hh hl hhi
    split at hop
    · rename_i s hx
      have hu : a.eval x = .string s := evV_rel hI hx
      split at hop
      · rename_i hT
        obtain ⟨h1, h2, h3⟩ := one_obs hop hob (0 ≤ l.getD 0 ∧ l.getD 0 ≤ hh.getD s.size ∧ hh.getD s.size ≤ s.size) (by simp)
        refine does_val hd (v := .string (s.extract (l.getD 0).toNat (hh.getD s.size).toNat)) (w' := w) ?_ (sr_one hI hlt hop hob rfl)
        simp [execOp, ho, hu, Instr.sliceAt, Instr.slice, run_und (isStr_und hT), run_bounds hI hl hhi false s.size s.size h1 h2 h3 (Nat.le_refl _)]
      · cases hop
    · split at hop
      · rename_i e he
        have hT := elemP_spec he
        split at hop
        · rename_i s xs hs hx
          -- a plain slice
          have core : 0 ≤ l.getD 0 → l.getD 0 ≤ hh.getD xs.length → hh.getD xs.length ≤ xs.length → (∀ c ∈ xs, c.length = s) →
              Does E L o a w [.t d (.v (.sl ((xs.take (hh.getD xs.length).toNat).drop (l.getD 0).toNat)), [])] := by
            intro h1 h2 h3 h4
            cases sliceOf_spec hI hx with
            | plain hr =>
              obtain ⟨A, len, cap, hu, hlen, hcap, hr⟩ := hr
              subst hlen
              have hb := run_bounds (P := E.P) (w := w) hI hl hhi true xs.length cap h1 h2 h3 hcap
              have hlt1 : (l.getD 0).toNat ≤ (hh.getD xs.length).toNat := by omega
              have hlt2 : (hh.getD xs.length).toNat ≤ xs.length := by omega
              refine does_val hd (v := .slice (if cap = (l.getD 0).toNat then A else A.map (·.add ((l.getD 0).toNat * s))) ((hh.getD xs.length).toNat - (l.getD 0).toNat) (cap - (l.getD 0).toNat)) (w' := w) ?_
                (hI.set0 hlt (sv := .v (.sl ((xs.take (hh.getD xs.length).toNat).drop (l.getD 0).toNat))) ⟨_, _, _, rfl, by rw [List.length_drop, List.length_take]; omega, by omega, ?_⟩)
              · simp [execOp, ho, hu, Instr.sliceAt, Instr.slice, run_und hT, hb, run_sizeOf hs]
              · by_cases hz : ((xs.take (hh.getD xs.length).toNat).drop (l.getD 0).toNat) = []
                · exact .inl hz
                · refine .inr ?_
                  rcases hr with hr | ⟨b, off, sz, hA, hr⟩
                  · subst hr; simp at hz
                  · have hne : 0 < (hh.getD xs.length).toNat - (l.getD 0).toNat := by
                      have : 0 < ((xs.take (hh.getD xs.length).toNat).drop (l.getD 0).toNat).length := List.length_pos_iff.2 hz
                      rw [List.length_drop, List.length_take] at this; omega
                    have hsz : sz = s := by
                      have h0 : 0 < xs.length := by omega
                      have g0 : xs[0]? = some xs[0] := by simp [h0]
                      have := (hr.get 0 g0).1
                      rw [← this]; exact h4 _ (by simp)
                    subst hsz
                    subst hA
                    refine ⟨b, off + (l.getD 0).toNat * sz, sz, ?_, (hr.take _).drop _⟩
                    rw [if_neg (by omega)]
                    simp [add_lit]
          split at hop
          · rename_i v hv
            cases hop
            obtain ⟨h1, h2, h3, h4, h5⟩ := hob _ (List.mem_singleton.2 rfl)
            subst h5
            exact core h1 h2 h3 h4
          · cases hop
            obtain ⟨h1, h2, h3, h4⟩ := hob _ (List.mem_singleton.2 rfl)
            exact core h1 h2 h3 h4
        · rename_i s p π hs hx
          split at hop
          · rename_i t hns
            split at hop
            · -- taken
              rename_i l0 hh0 e' dp xs m htk ht
              split at hop
              · rename_i ys ob hee hnew
                cases hop
                rw [Bool.and_eq_true, Bool.not_eq_true'] at hee
                have hne := beq_false hee.2
                have hee := Nat.eq_of_beq_eq_true hee.1
                subst hee
                obtain ⟨h1, h2⟩ := hob _ (List.mem_append_right _ (List.mem_singleton.2 rfl))
                have hys : ys = xs.take m.toNat := by
                  unfold anewC at hnew
                  split at hnew
                  · cases hnew
                    exact (hob (xs.take m.toNat = _) (by simp)).symm
                  · cases hnew; rfl
                subst hys
                obtain ⟨_, ⟨A, l2, k2, hu⟩, hoo⟩ := hI.tm t _ _ ht
                have hu' : a.eval (.tmp t) = .slice A l2 k2 := hu
                obtain ⟨c, hc, hoc⟩ := hoo 0 _ List.mem_cons_self
                rw [hu] at hc
                simp [Value.flat, Value.cells] at hc
                subst hc
                obtain ⟨hpv, F, ⟨e2, sz, us, F', g0, g1, g2, g3, g4, rfl, g6, g7⟩, hF⟩ := hoc
                obtain rfl : e2 = e := g0.resolve_right hne
                have hsz : sz = s := by rw [hs] at g1; cases g1; rfl
                subst hsz
                obtain ⟨u', k1, k2', k3⟩ := ownsRow_take g2 (show m.toNat ≤ xs.length by omega)
                have hk1 := k1 A l2 k2 rfl
                subst hk1
                have hlen : l2 = xs.length := by
                  rcases g2.2 with ⟨e1, e2⟩ | ⟨g, cp, cur, e1, _⟩ <;> cases e1
                  · exact e2.symm
                  · rfl
                subst hlen
                have hcap : xs.length ≤ k2 := by
                  rcases g2.2 with ⟨e1, e2⟩ | ⟨g, cp, cur, e1, _, _, h9, _⟩
                  · omega
                  · cases e1; exact h9
                have hA : A = none ∨ ∃ g, A = some ⟨g, 0, none⟩ := by
                  rcases g2.2 with ⟨e1, e2⟩ | ⟨g, cp, cur, e1, _⟩
                  · simp at e1; exact .inl e1.1
                  · cases e1; exact .inr ⟨g, rfl⟩
                have hb := run_bounds (P := E.P) (w := w) (l := none) (hh := some m) hI hl hhi true xs.length k2 (by simp) (by simpa using h1) (by simpa using h2) hcap
                simp at hb
                refine does_val hd (v := .slice A m.toNat k2) (w' := w) ?_ ?_
                · simp [execOp, ho, hu', Instr.sliceAt, Instr.slice, run_und hT, hb, run_sizeOf hs]
                  intro _
                  rcases hA with rfl | ⟨g, rfl⟩
                  · rfl
                  · simp [add_lit]
                · obtain ⟨i1, av1⟩ := hI.clear ht
                  obtain ⟨i2, av2⟩ := i1.fresh hlt
                  have av1' : Av (DR (.t t)) (Look.upds ((L.upd (.f (.t t))).upd (.t t (.v .slx, []))) (fresh d)) := (av1.f (.t d)).setT trivial (fun j oe hj => by cases hj)
                  have hS : Stp (fun q => DR (.t t) q ∨ DR (.t d) q) w w G (G.hand (moveTT t d) (pvT G.pv d (.slice A m.toNat k2))) := Stp.hand hI
                    (fun p hp => by
                      cases p with
                      | t k j => simp only [DR, not_or] at hp; simp [moveTT, hp.1]
                      | b k j => rfl
                      | a k j => rfl)
                    (fun p hp => by simp only [not_or] at hp; exact pvT_ne hp.2) (fun i j => rfl)
                  have i3 := i2.step' (av1'.or av2) hS
                  refine ⟨_, i3.setT hlt (sv := .v .slx) ⟨_, _, _, rfl⟩ (fun j oe hj => ?_)⟩
                  simp at hj
                  obtain ⟨rfl, rfl⟩ := hj
                  refine ⟨_, rfl, pvT_eq rfl, ?_⟩
                  have htake := flatten_take g3 (show m.toNat ≤ xs.length by omega)
                  have hlt3 : (xs.take m.toNat).length = m.toNat := by rw [List.length_take]; omega
                  have hlabs : ∀ b ∈ blks (Value.slice A xs.length k2) ++ F', (G.hand (moveTT t d) (pvT G.pv d (.slice A m.toNat k2))).lab b = some (.own (.t d 0)) := fun b hb => by
                    have := hF b hb
                    simp [Gho.hand, this, LP.to, moveTT]
                  cases dp with
                  | true =>
                    obtain ⟨F2, f1, f2⟩ := DVL.take (m.toNat * sz) g4
                    rw [htake] at f1
                    refine ⟨blks (Value.slice A m.toNat k2) ++ F2, ⟨e2, sz, us.take (m.toNat * sz), F2, .inl rfl, g1, by rw [hlt3]; exact k2', fun c hc => g3 c (List.mem_of_mem_take hc), f1, rfl, ?_, ?_⟩, ?_⟩
                    · rw [k3]; exact g6.sublist (f2.append_left _)
                    · intro b hb; rw [k3] at hb; exact g7 b ((f2.append_left _).subset hb)
                    · intro b hb; rw [k3] at hb; exact hlabs b ((f2.append_left _).subset hb)
                  | false =>
                    obtain ⟨rfl, g4⟩ := g4
                    refine ⟨blks (Value.slice A m.toNat k2) ++ [], ⟨e2, sz, us.take (m.toNat * sz), [], .inl rfl, g1, by rw [hlt3]; exact k2', fun c hc => g3 c (List.mem_of_mem_take hc), ⟨rfl, ?_⟩, rfl, ?_, ?_⟩, ?_⟩
                    · rw [← htake]; exact RelL.take _ g4
                    · rw [k3]; exact g6
                    · intro b hb; rw [k3] at hb; exact g7 b hb
                    · intro b hb; rw [k3] at hb; exact hlabs b hb
              · cases hop
            · -- a part of it
              rename_i l hh _ _ _ _ _
              split at hop
              · rename_i dp xs ob hc
                cases hop
                obtain ⟨h1, h2, h3⟩ := hob _ (List.mem_append_right _ (List.mem_singleton.2 rfl))
                cases sliceOf_spec hI hx with
                | held hat hs' =>
                  have hh' := cont_held hI hc (fun q hq => hob q (by simp [hq])) hat
                  obtain ⟨e2, sz, us, F, r1, r2, r3, r4, r5⟩ := hh'.row
                  have hlt1 : (l.getD 0).toNat ≤ (hh.getD xs.length).toNat := by omega
                  have hlt2 : (hh.getD xs.length).toNat ≤ xs.length := by omega
                  rcases r2.2 with ⟨e1, h0⟩ | ⟨g, cap, cur, e1, _, g2, g3, _⟩
                  · have hb := run_bounds (P := E.P) (w := w) hI hl hhi true xs.length 0 h1 h2 h3 (by omega)
                    rw [h0] at hb
                    refine does_val hd (v := .slice none ((hh.getD xs.length).toNat - (l.getD 0).toNat) (0 - (l.getD 0).toNat)) (w' := w) ?_ (hI.setSeen hlt (sv := .v .slx) ⟨_, _, _, rfl⟩ (fun j oe hj => ?_))
                    · rw [h0] at hlt1 ⊢
                      simp [execOp, ho, e1, Instr.sliceAt, Instr.slice, run_und hT, hb, run_sizeOf hs]
                    · simp at hj
                      obtain ⟨rfl, rfl⟩ := hj
                      exact ⟨_, rfl, ⟨_, _, rfl⟩, .inl (by omega)⟩
                  · have hb := run_bounds (P := E.P) (w := w) hI hl hhi true xs.length cap h1 h2 h3 g3
                    rw [e1] at hat
                    refine does_val hd (v := .slice (if cap = (l.getD 0).toNat then some ⟨g, 0, none⟩ else some ⟨g, (l.getD 0).toNat * s, none⟩) ((hh.getD xs.length).toNat - (l.getD 0).toNat) (cap - (l.getD 0).toNat)) (w' := w) ?_ (hI.setSeen hlt (sv := .v .slx) ⟨_, _, _, rfl⟩ (fun j oe hj => ?_))
                    · simp [execOp, ho, e1, Instr.sliceAt, Instr.slice, run_und hT, hb, run_sizeOf hs, add_lit]
                    · simp at hj
                      obtain ⟨rfl, rfl⟩ := hj
                      refine ⟨_, rfl, ⟨_, _, rfl⟩, ?_⟩
                      by_cases hn : (hh.getD xs.length).toNat - (l.getD 0).toNat = 0
                      · exact .inl hn
                      · refine .inr ⟨g, xs.length, cap, cap - (l.getD 0).toNat, hat, r5 g (by rw [e1]; simp [blks, Value.ownBlock]), by omega, ?_⟩
                        rw [if_neg (by omega)]
              · cases hop
            · cases hop
          · cases hop
        · cases hop
      · cases hop
  · cases hop
end Go.Bv

namespace Go.Bv
open Go.RowKit
variable {E : Env} {P : Program} {n : Nat} {L L' : Look} {a : Act} {w w' : World} {G G' : Gho} {D D' : LP → Prop} {o : Oper} {d : Nat} {h : Hint} {ups : List Upd} {obs : List Prop}
theorem s_builtin (hI : Inv E L a w G) (hd : o.dst = some d) (hlt : d < E.n) {c : Call} (ho : o.op = .call c) {b : Builtin} (hg : c.callee = .builtin b) (hop : oBuiltin E.P L d b c.args.toList c.argTypes.toList h = some (ups, obs)) (hob : ∀ p ∈ obs, p) :
    Does E L o a w ups := by
  have two : ∀ {x y : Operand} {k k' : IntKind} {m m' : Int}, c.args.toList = [x, y] → evV L x = some (.int k m) → evV L y = some (.int k' m') → c.args.map a.eval = #[.int k m, .int k' m'] := by
    intro x y k k' m m' h1 h2 h3
    have e1 : a.eval x = .int k m := evV_rel hI h2
    have e2 : a.eval y = .int k' m' := evV_rel hI h3
    apply Array.ext'; simp [h1, e1, e2]
  unfold oBuiltin at hop
  split at hop
  · -- len
    rename_i x t hargs htys
    have hty : c.argTypes[0]? = some t := by rw [← Array.getElem?_toList, htys]; rfl
    have harg : c.args.map a.eval = #[a.eval x] := by apply Array.ext'; simp [hargs]
    split at hop
    · rename_i e hT
      split at hop
      · rename_i m ob hl
        have hu : ∃ A cap, a.eval x = .slice A m cap := by
          unfold lenOf at hl
          split at hl
          · rename_i xs hx
            cases hl
            cases sliceOf_spec hI hx with
            | plain hr => obtain ⟨A, len, cap, hu, rfl, _⟩ := hr; exact ⟨A, cap, hu⟩
          · rename_i p π hx
            split at hl
            · rename_i dp xs ob' hc
              cases hl
              cases sliceOf_spec hI hx with
              | held hat hs =>
                have hh := cont_held hI hc (fun q hq => one_obs hop hob q hq) hat
                obtain ⟨e, sz, us, F, _, r2, _⟩ := hh.row
                rcases r2.2 with ⟨e1, h0⟩ | ⟨g, cap, cur, e1, _⟩
                · exact ⟨none, 0, by rw [e1, h0]⟩
                · exact ⟨_, cap, e1⟩
            · cases hl
          · rename_i p π lo sz k hx
            cases hl
            cases sliceOf_spec hI hx with
            | part hp => obtain ⟨⟨A, cap, hu⟩, _⟩ := hp (.t 0 0); exact ⟨A, cap, hu⟩
          · cases hl
        obtain ⟨A, cap, hu⟩ := hu
        refine does_val hd (v := .int .i64 m) (w' := w) ?_ (sr_one hI hlt hop hob rfl)
        simp [execOp, ho, resolve, hg, invoke, builtin, harg, Builtin.len_, hty, run_und hT, hu, goInt]
      · cases hop
    · rename_i hT
      split at hop
      · rename_i s hx
        have hu : a.eval x = .string s := evV_rel hI hx
        refine does_val hd (v := .int .i64 s.size) (w' := w) ?_ (sr_one hI hlt hop hob rfl)
        simp [execOp, ho, resolve, hg, invoke, builtin, harg, Builtin.len_, hty, run_und hT, hu, goInt]
      · cases hop
    · cases hop
  · rename_i x y _ hargs
    split at hop
    · rename_i k m k' m' hx hy
      have hargs' := two hargs hx hy
      split at hop
      · rename_i hk; subst hk
        refine does_val hd (v := .int k (if m' > m then m' else m)) (w' := w) ?_ (sr_one hI hlt hop hob rfl)
        simp [execOp, ho, resolve, hg, invoke, builtin, hargs', Builtin.max_, Builtin.max2]
      · cases hop
    · cases hop
  · rename_i x y _ hargs
    split at hop
    · rename_i k m k' m' hx hy
      have hargs' := two hargs hx hy
      split at hop
      · rename_i hk; subst hk
        refine does_val hd (v := .int k (if m' < m then m' else m)) (w' := w) ?_ (sr_one hI hlt hop hob rfl)
        simp [execOp, ho, resolve, hg, invoke, builtin, hargs', Builtin.min_, Builtin.min2]
      · cases hop
    · cases hop
  · cases hop
def moveTo (t d off : Nat) : OP → OP
  | .t k j => if k = t then .t d (off + j) else .t k j
  | p => p
def pvR (pv : OP → Value) (d off : Nat) (us : List Value) : OP → Value
  | .t k j => if k = d ∧ off ≤ j ∧ j < off + us.length then (us[j - off]?).getD undef else pv (.t k j)
  | p => pv p
theorem Inv.takeTo (hI : Inv E L a w G) (hav : Av (DR (.t d)) L) {t : Nat} (htd : t ≠ d) {y : AV} {own : OwnL} (ht : L.t t = some (.v y, own)) (hn : refsL (.t t) own = false) (hnd : refsL (.t d) own = false) (hsol : y.solid = true) (off : Nat) :
    ∃ G', G'.X = G.X ∧ Inv E (L.upds [.f (.t t), .t t (.v y, [])]) a w G' ∧ Av (DR (.t d)) (L.upds [.f (.t t), .t t (.v y, [])]) ∧
      Stp (fun q => DR (.t t) q ∨ DTr d off (a.eval (.tmp t)).cells.toList.length q) w w G G' ∧
      ∀ j oe, (j, oe) ∈ own → ∃ c, (a.eval (.tmp t)).cells.toList[j]? = some c ∧ Own E.P G' w (.t d (off + j)) oe c := by
  obtain ⟨_, hr, hoo⟩ := hI.tm t _ _ ht
  obtain ⟨h1, av1⟩ := hI.clear ht
  have av2 : Av (DR (.t d)) (L.upds [.f (.t t), .t t (.v y, [])]) := (hav.f (.t t)).setT trivial (fun j oe hj => by cases hj)
  have hfl : Value.flat (a.eval (.tmp t)) = (a.eval (.tmp t)).cells.toList := flat_cells (rel_notuple (u := a.eval (.tmp t)) hr hsol)
  have hS : Stp (fun q => DR (.t t) q ∨ DTr d off (a.eval (.tmp t)).cells.toList.length q) w w G (G.hand (moveTo t d off) (pvR G.pv d off (a.eval (.tmp t)).cells.toList)) := Stp.hand hI
    (fun p hp => by
      simp only [not_or] at hp
      cases p with
      | b i j => rfl
      | t i j => simp only [DR] at hp; simp only [moveTo, if_neg hp.1]
      | a i j => rfl)
    (fun p hp => by
      simp only [not_or] at hp
      cases p with
      | b i j => rfl
      | t i j => simp only [DTr] at hp; simp only [pvR, if_neg hp.2]
      | a i j => rfl) (fun i j => rfl)
  refine ⟨G.hand (moveTo t d off) (pvR G.pv d off (a.eval (.tmp t)).cells.toList), rfl, h1.step' (av1.or (av2.mono (fun q hq => DTr_sub hq))) hS, av2, hS, fun j oe hj => ?_⟩
  obtain ⟨c, hc, hoc⟩ := hoo j oe hj
  have hc' : (Value.flat (a.eval (.tmp t)))[j]? = some c := hc
  rw [hfl] at hc'
  have hlt := (List.getElem?_eq_some_iff.1 hc').1
  refine ⟨c, hc', ?_⟩
  cases hw : oe.owner with
  | true =>
    refine hoc.hand hw (by simp [moveTo]) ?_
    show (if d = d ∧ off ≤ off + j ∧ off + j < off + (a.eval (.tmp t)).cells.toList.length then ((a.eval (.tmp t)).cells.toList[off + j - off]?).getD undef else _) = c
    rw [if_pos ⟨rfl, by omega, by omega⟩, Nat.add_sub_cancel_left, hc']
    rfl
  | false =>
    refine (hS.own ?_ hoc).al_any hw
    exact (okE_take (d := d) hn hj hw).or ((okE_take (d := d) (t := d) hnd hj hw).mono (fun q hq => DTr_sub hq))
theorem refsL_restO {r : Ref} {lo n : Nat} : ∀ {own : OwnL}, refsL r own = false → refsL r (restO lo n own) = false
  | [], h => h
  | (k, y) :: l, h => by
    simp only [refsL, Bool.or_eq_false_iff] at h
    simp only [restO]
    split
    · exact refsL_restO h.2
    · simp only [refsL, Bool.or_eq_false_iff]; exact ⟨h.1, refsL_restO h.2⟩
theorem build_fill {ps : List (Nat × Nat)} {tk : List Nat} : ∀ (parts : List (Nat × Operand)) (L : Look) (G : Gho) (cs : List AV) (own : OwnL) (cs' : List AV) (own' : OwnL) (pre : List Upd) (us : Array Value),
    buildC ps tk d L parts cs own = some (cs', own', pre) → Inv E L a w G → Av (DR (.t d)) L → RelL G.X w cs us.toList →
    (∀ j oe, (j, oe) ∈ own → (oe.owner = false → okE (DR (.t d)) (.t d j) oe) ∧ ∃ c, us[j]? = some c ∧ Own E.P G w (.t d j) oe c) →
    ∃ us' G', Instr.fill (ps[·]?) us (parts.map fun p => (p.1, a.eval p.2)) = some us' ∧ Inv E (L.upds pre) a w G' ∧ Av (DR (.t d)) (L.upds pre) ∧ RelL G'.X w cs' us'.toList ∧
      (∀ j oe, (j, oe) ∈ own' → (oe.owner = false → okE (DR (.t d)) (.t d j) oe) ∧ ∃ c, us'[j]? = some c ∧ Own E.P G' w (.t d j) oe c)
  | [], L, G, cs, own, cs', own', pre, us, hb, hI, hav, hr, ho => by
    simp [buildC] at hb
    obtain ⟨rfl, rfl, rfl⟩ := hb
    exact ⟨us, G, rfl, hI, hav, hr, ho⟩
  | (i, x) :: rest, L, G, cs, own, cs', own', pre, us, hb, hI, hav, hr, ho => by
    simp only [buildC] at hb
    split at hb
    · rename_i off s av o' pre1 hp hg
      split at hb
      · rename_i hc
        simp only [Bool.and_eq_true, Nat.ble_eq, Bool.not_eq_true'] at hc
        obtain ⟨⟨⟨⟨h1, h2⟩, h3⟩, h4⟩, h5⟩ := hc
        have h2' := Nat.eq_of_beq_eq_true h2
        split at hb
        · rename_i cs2 own2 pre2 hb2
          cases hb
          -- one part
          have one : ∃ G1, G1.X = G.X ∧ Inv E (L.upds pre1) a w G1 ∧ Av (DR (.t d)) (L.upds pre1) ∧ Rel G.X w av (a.eval x) ∧
              (∀ j oe, (j, oe) ∈ restO off s own → Own E.P G w (.t d j) oe ((us[j]?).getD undef) → Own E.P G1 w (.t d j) oe ((us[j]?).getD undef)) ∧
              ∀ j oe, (j, oe) ∈ o' → (oe.owner = false → okE (DR (.t d)) (.t d (off + j)) oe) ∧ ∃ c, (a.eval x).cells.toList[j]? = some c ∧ Own E.P G1 w (.t d (off + j)) oe c := by
            cases grab_spec hI hg with
            | seen hr' hoo =>
              refine ⟨G, rfl, hI, hav, hr', fun j oe _ h => h, fun j oe hj => ?_⟩
              obtain ⟨h6, u, hu, h7⟩ := hoo j oe hj
              rw [flat_cells (rel_notuple hr' h1)] at hu
              exact ⟨fun _ => okE_ref (refsL_false h4 j oe hj) (fun h => by rw [h6] at h; cases h), u, hu, h7 _⟩
            | taken t y hx hs ht hn =>
              subst hx; cases hs
              simp only [apart, Bool.and_eq_true, Bool.not_eq_true'] at h5
              have htd : t ≠ d := beq_false h5.2
              obtain ⟨G1, e1, i1, a1, S1, o1⟩ := hI.takeTo hav htd ht hn h4 h1 off
              have hr' : Rel G.X w av (a.eval (.tmp t)) := (hI.tm t _ _ ht).2.1
              have hlen : (a.eval (.tmp t)).cells.toList.length = s := by rw [(rel_solid hr' h1).length]; exact h2'
              refine ⟨G1, e1, i1, a1, hr', fun j oe hj h => ?_, fun j oe hj => ?_⟩
              · refine S1.own ?_ h
                obtain ⟨hj1, hj2⟩ := mem_restO hj
                cases hw : oe.owner with
                | true =>
                  have : ¬ ((DR (.t t)) (.own (.t d j)) ∨ DTr d off (a.eval (.tmp t)).cells.toList.length (.own (.t d j))) := by
                    rintro (hh | hh)
                    · exact htd hh.symm
                    · rw [hlen] at hh; exact hj2 hh.2
                  cases oe with
                  | app e => exact this
                  | ex e dp xs => exact this
                  | al q π => cases hw
                  | sb q π lo sz n => cases hw
                | false =>
                  exact (okE_ref (refsL_false h5.1 j oe hj1) (fun h => by rw [hw] at h; cases h)).or (((ho j oe hj1).1 hw).mono (fun q hq => DTr_sub hq))
              · obtain ⟨c, hc, hoc⟩ := o1 j oe hj
                exact ⟨fun hw => okE_ref (refsL_false h4 j oe hj) (fun h => by rw [hw] at h; cases h), c, hc, hoc⟩
          obtain ⟨G1, e1, i1, a1, hrel, keep, got⟩ := one
          have hcells := rel_solid hrel h1
          have hl := hcells.length
          have hl2 := hr.length
          have husz : us.size = cs.length := by rw [← hl2]; simp
          have hust : us.toList.length = us.size := by simp
          have hcs : (a.eval x).cells.toList.length = s := by rw [hl]; exact h2'
          have hset : setAll us.toList off (a.eval x).cells.toList = us.toList.take off ++ (a.eval x).cells.toList ++ us.toList.drop (off + (a.eval x).cells.toList.length) := setAll_eq _ _ _ (by rw [hl]; simp; omega)
          obtain ⟨us', G2, f1, f2, f3, f4, f5⟩ := build_fill rest (L.upds pre1) G1 _ _ cs' own' pre2 (setAll us.toList off (a.eval x).cells.toList).toArray hb2 i1 a1 (by rw [e1]; simpa using RelL.setAll off hcells hr) (fun j oe hj => by
            have hget : ∀ c, us[j]? = some c → ¬ (off ≤ j ∧ j < off + s) → (setAll us.toList off (a.eval x).cells.toList)[j]? = some c := by
              intro c hc hn
              rw [hset]
              by_cases hjo : j < off
              · rw [List.append_assoc, List.getElem?_append_left (by rw [List.length_take]; simp; omega), List.getElem?_take, if_pos hjo]; simpa using hc
              · have hge : off + s ≤ j := by omega
                rw [List.getElem?_append_right (by rw [List.length_append, List.length_take, hcs, hust]; omega), List.getElem?_drop, List.length_append, List.length_take]
                have hmin : min off us.toList.length = off := Nat.min_eq_left (by simp; omega)
                rw [hmin, show off + (a.eval x).cells.toList.length + (j - (off + (a.eval x).cells.toList.length)) = j by omega]
                simpa using hc
            rcases List.mem_append.1 hj with hj | hj
            · obtain ⟨hj1, hj2⟩ := mem_restO hj
              obtain ⟨k1, c, k2, k3⟩ := ho j oe hj1
              refine ⟨k1, c, by simpa using hget c k2 hj2, ?_⟩
              have := keep j oe hj (by rw [k2]; exact k3)
              rw [k2] at this; exact this
            · obtain ⟨q, rfl, hq⟩ := mem_shiftO hj
              obtain ⟨k1, c, k2, k3⟩ := got q oe hq
              refine ⟨k1, c, ?_, k3⟩
              have hql := (List.getElem?_eq_some_iff.1 k2).1
              simp only [List.getElem?_toArray]
              rw [hset, List.append_assoc, List.getElem?_append_right (by rw [List.length_take]; omega), List.length_take]
              have hmin : min off us.toList.length = off := Nat.min_eq_left (by simp; omega)
              rw [hmin, Nat.add_sub_cancel_left, List.getElem?_append_left hql]; exact k2)
          refine ⟨us', G2, ?_, by rw [upds_append]; exact f2, by rw [upds_append]; exact f3, f4, f5⟩
          rw [List.map_cons, fill_cons (place := (ps[·]?)) (off := off) (size := s) hp (by rw [← h2', ← hl]; simp) (by omega)]
          exact f1
        · cases hb
      · cases hb
    · cases hb
theorem s_build (hI : Inv E L a w G) (hd : o.dst = some d) (hlt : d < E.n) {T : TypeId} {parts : Array (Nat × Operand)} (ho : o.op = .build T parts) (hop : oBuild E.P L d T parts.toList h = some (ups, obs)) : Does E L o a w ups := by
  unfold oBuild at hop
  split at hop
  · rename_i zs fs hz hT
    split at hop
    · rename_i ps hps
      split at hop
      · rename_i cs own pre hc
        cases hop
        obtain ⟨i, z, hi, hzz, hcz⟩ := zeroP_spec hz
        obtain ⟨i1, a1⟩ := hI.fresh hlt
        have hS : Stp (DR (.t d)) w w G (G.hand id (pvR G.pv d 0 z.cells.toList)) := Stp.hand hI (fun p hp => rfl) (fun p hp => by
          cases p with
          | b i j => rfl
          | t i j => simp only [DR] at hp; simp only [pvR]; rw [if_neg (fun h => hp h.1)]
          | a i j => rfl) (fun i j => rfl)
        have i2 := i1.step' a1 hS
        obtain ⟨us', G2, f1, f2, f3, f4, f5⟩ := build_fill parts.toList _ _ zs (zeroOwn E.P T) cs own pre z.cells hc i2 a1 (avConsts_rel hcz) (fun j oe hj => by
          obtain ⟨h3, e, rfl, h4⟩ := zeroOwn_spec hi hzz hj
          refine ⟨(fun h => by cases h), _, h3, own_nil h4 ?_⟩
          have hjl : j < z.cells.toList.length := by have := (Array.getElem?_eq_some_iff.1 h3).1; simpa using this
          show (if d = d ∧ 0 ≤ j ∧ j < 0 + z.cells.toList.length then (z.cells.toList[j - 0]?).getD undef else _) = _
          rw [if_pos ⟨rfl, by omega, by omega⟩, Nat.sub_zero, Array.getElem?_toList, h3]
          rfl)
        refine does_val hd (v := .agg us') (w' := w) ?_ ?_
        · have hm : (fs.mapM fun f => do pure (f.offset, ← sizeOf f.type) : Sem (Array (Nat × Nat))).run E.P w = .ok ps.toArray w := by
            rw [Array.mapM_eq_mapM_toList]
            have := run_places (P := E.P) (w := w) fs.toList ps hps
            simp only [Sem.run_map, this, Result.andThen_ok]
          have hp : (parts.map fun (x : Nat × Operand) => (x.1, a.eval x.2)).toList = parts.toList.map fun p => (p.1, a.eval p.2) := by simp
          simp only [execOp, ho, Instr.build, Sem.run_bind, run_zeroValue hi hzz, Result.andThen_ok, run_und hT, hm]
          simp only [hp, List.getElem?_toArray]
          rw [f1]
          simp
        · rw [upds_append, upds_append]
          refine ⟨_, f2.setT hlt (sv := .v (.agg cs)) ⟨us'.toList, by simp, f4⟩ (fun j oe hj => ?_)⟩
          obtain ⟨_, c, hc, hoc⟩ := f5 j oe hj
          exact ⟨c, by simpa [Value.flat, Value.cells] using hc, hoc⟩
      · cases hop
    · cases hop
  · cases hop
end Go.Bv

namespace Go.Bv
open Go.RowKit
variable {E : Env} {P : Program} {n : Nat} {L L' : Look} {a : Act} {w w' : World} {G G' : Gho} {D D' : LP → Prop} {o : Oper} {d : Nat} {h : Hint} {ups : List Upd} {obs : List Prop}
def Cont (P : Program) (G : Gho) (w : World) (p : OP) (dp : Bool) (xs : List AV) (us : List Value) (F : List Nat) : Prop :=
  match dp with
  | true => DVL P w xs us F ∧ F.Nodup ∧ ∀ b ∈ F, G.lab b = some (.own p) ∧ G.X b = some 0
  | false => F = [] ∧ RelL G.X w xs us
theorem Cont.length {p : OP} {dp : Bool} {xs : List AV} {us : List Value} {F : List Nat} (h : Cont P G w p dp xs us F) : us.length = xs.length := by
  cases dp with
  | true => exact h.1.length
  | false => exact h.2.length
theorem Cont.append {p : OP} {dp : Bool} {xs ys : List AV} {us vs : List Value} {F F' : List Nat} (h : Cont P G w p dp xs us F) (h' : Cont P G w p dp ys vs F') (hd : dp = true → ∀ b ∈ F, b ∉ F') : Cont P G w p dp (xs ++ ys) (us ++ vs) (F ++ F') := by
  cases dp with
  | true =>
    obtain ⟨a1, a2, a3⟩ := h
    obtain ⟨b1, b2, b3⟩ := h'
    refine ⟨a1.append b1, List.nodup_append.2 ⟨a2, b2, fun x hx y hy e => hd rfl x hx (e ▸ hy)⟩, fun b hb => (List.mem_append.1 hb).elim (a3 b) (b3 b)⟩
  | false =>
    obtain ⟨rfl, a2⟩ := h
    obtain ⟨rfl, b2⟩ := h'
    exact ⟨rfl, a2.append b2⟩
theorem fillD_cont : ∀ (cs : List AV) (k : Nat) (cs' : List AV) (us : List Value) (own : OwnL) (src : Nat → OP), fillD own k cs = some cs' → RelL G.X w cs us →
    (∀ i oe, (k + i, oe) ∈ own → i < cs.length → oe.owner = true → ∃ c, us[i]? = some c ∧ ∃ F, Rs P G.X w oe c F ∧ ∀ b ∈ F, G.lab b = some (.own (src (k + i)))) → (∀ i j, src i = src j → i = j) →
    ∃ F, DVL P w cs' us F ∧ F.Nodup ∧ ∀ b ∈ F, G.X b = some 0 ∧ ∃ i, k ≤ i ∧ G.lab b = some (.own (src i))
  | [], k, cs', us, own, src, hf, hr, _, _ => by
    simp [fillD] at hf; subst hf
    rw [show us = [] from hr]
    exact ⟨[], ⟨rfl, rfl⟩, List.nodup_nil, by simp⟩
  | c :: cs, k, cs', us, own, src, hf, ⟨u, r, e, hu, hr⟩, ho, hinj => by
    subst e
    simp only [fillD] at hf
    split at hf
    · rename_i r' hr'
      obtain ⟨F2, d1, d2, d3⟩ := fillD_cont cs (k + 1) r' r own src hr' hr (fun i oe hi hlt hw => by
        obtain ⟨c, hc, h⟩ := ho (i + 1) oe (by rw [show k + (i + 1) = k + 1 + i by omega]; exact hi) (by simpa using hlt) hw
        exact ⟨c, by simpa using hc, by rw [show k + 1 + i = k + (i + 1) by omega]; exact h⟩) hinj
      -- the first cell
      have first : ∀ (c' : AV) (F1 : List Nat), DV P w c' u F1 → F1.Nodup → (∀ b ∈ F1, G.X b = some 0 ∧ G.lab b = some (.own (src k))) → cs' = c' :: r' →
          ∃ F, DVL P w cs' (u :: r) F ∧ F.Nodup ∧ ∀ b ∈ F, G.X b = some 0 ∧ ∃ i, k ≤ i ∧ G.lab b = some (.own (src i)) := by
        intro c' F1 e1 e2 e3 e4
        subst e4
        refine ⟨F1 ++ F2, ⟨u, r, F1, F2, rfl, rfl, e1, d1⟩, List.nodup_append.2 ⟨e2, d2, fun x hx y hy e => ?_⟩, fun b hb => ?_⟩
        · subst e
          obtain ⟨_, i, hi, hl⟩ := d3 x hy
          rw [(e3 x hx).2] at hl
          have h9 : src k = src i := by injection hl with h; injection h
          have := hinj k i h9
          omega
        · rcases List.mem_append.1 hb with hb | hb
          · exact ⟨(e3 b hb).1, k, Nat.le_refl _, (e3 b hb).2⟩
          · obtain ⟨h1, i, h2, h3⟩ := d3 b hb; exact ⟨h1, i, by omega, h3⟩
      split at hf
      · rename_i e ys hl
        cases hf
        obtain ⟨v, hv, F1, ⟨e2, sz, us', F', _, g1, g2, g3, g4, rfl, g6, g7⟩, hF⟩ := ho 0 _ (lkO_mem hl) (by simp) rfl
        simp at hv; subst hv
        exact first (.sl ys) _ ⟨e2, sz, us', F', g1, g2, DVE_iff.2 ⟨g3, g4⟩, rfl⟩ g6 (fun b hb => ⟨g7 b hb, hF b hb⟩) rfl
      · rename_i e hl
        split at hf
        · cases hf
          obtain ⟨v, hv, F1, ⟨sz, n, us', g1, g2, rfl, g4⟩, hF⟩ := ho 0 _ (lkO_mem hl) (by simp) rfl
          simp at hv; subst hv
          obtain ⟨A, len, cap, hu1, hu2, _⟩ := hu
          have hn : n = 0 := by
            rcases g2.2 with ⟨e1, e2⟩ | ⟨g, cp, cur, e1, _⟩
            · exact e2
            · rw [hu1] at e1; cases e1; simpa using hu2
          subst hn
          have hus : us' = [] := List.eq_nil_of_length_eq_zero (by rw [g2.1]; simp)
          subst hus
          exact first (.sl []) _ ⟨e, sz, [], [], g1, g2, ⟨rfl, rfl⟩, by simp⟩ (by unfold blks; split <;> simp) (fun b hb => ⟨by rw [g4 b hb]; simp, hF b hb⟩) rfl
        · cases hf
      · cases hf
      · split at hf
        · rename_i k m; cases hf; exact first (.int k m) [] ⟨hu, rfl⟩ List.nodup_nil (by simp) rfl
        · rename_i m; cases hf; exact first (.bool m) [] ⟨hu, rfl⟩ List.nodup_nil (by simp) rfl
        · rename_i m; cases hf; exact first (.str m) [] ⟨hu, rfl⟩ List.nodup_nil (by simp) rfl
        · cases hf
    · cases hf
theorem fillD_length : ∀ {cs cs' : List AV} {own : OwnL} {k : Nat}, fillD own k cs = some cs' → cs'.length = cs.length
  | [], cs', own, k, h => by simp [fillD] at h; subst h; rfl
  | c :: cs, cs', own, k, h => by
    simp only [fillD] at h
    split at h
    · rename_i r hr
      have ih := fillD_length hr
      split at h
      · cases h; simp [ih]
      · split at h
        · cases h; simp [ih]
        · cases h
      · cases h
      · split at h <;> first | (cases h; simp [ih]) | cases h
    · cases h
def dpOf (md : Nat) : Bool := match md with | 0 => false | 1 => false | _ => true
theorem fillM_length {md : Nat} {own : OwnL} {cs cs' : List AV} (h : fillM md own cs = some cs') : cs'.length = cs.length := by
  have hs : fillS own cs = some cs' → cs'.length = cs.length := by
    intro h
    unfold fillS at h
    split at h
    · cases h; rfl
    · cases h
  unfold fillM at h
  split at h
  · exact hs h
  · exact hs h
  · exact fillD_length h
def moveIn (t : Nat) (p : OP) : OP → OP
  | .t k j => if k = t then p else .t k j
  | q => q
theorem Inv.partIn (hI : Inv E L a w G) {D0 : LP → Prop} (hav : Av D0 L) {x : Operand} {tk : List Nat} {av : AV} {o' : OwnL} {pre : List Upd} (hg : grab L x tk = some (.v av, o', pre)) {md : Nat} {c : List AV} (hf : fillM md o' av.cells = some c) (hsol : av.solid = true)
    {p : OP} (hp : ∀ t, pre ≠ [] → x = .tmp t → ∀ j, p ≠ .t t j) :
    ∃ G', G'.X = G.X ∧ (∀ b, G.lab b = some (.own p) → G'.lab b = some (.own p)) ∧ (∀ b, G.lab b = none → G'.lab b = none) ∧ (∀ q, G'.pv q = G.pv q) ∧ G'.bx = G.bx ∧ Inv E (L.upds pre) a w G' ∧ Av D0 (L.upds pre) ∧ Rel G.X w av (a.eval x) ∧
      ∃ F, Cont E.P G' w p (dpOf md) c (a.eval x).cells.toList F ∧ (dpOf md = true → ∀ b ∈ F, G.lab b ≠ some (.own p)) := by
  have hG := grab_spec hI hg
  -- seen by others
  have shared : ∀ {G' : Gho}, G'.X = G.X → Rel G.X w av (a.eval x) → fillS o' av.cells = some c → RelL G'.X w c (a.eval x).cells.toList := by
    intro G' e hr h
    unfold fillS at h
    split at h
    · cases h; rw [e]; exact rel_solid hr hsol
    · cases h
  cases hG with
  | seen hr hoo =>
    refine ⟨G, rfl, fun b h => h, fun b h => h, fun q => rfl, rfl, hI, hav, hr, ?_⟩
    unfold fillM at hf
    split at hf
    · exact ⟨[], ⟨rfl, shared rfl hr hf⟩, by simp [dpOf]⟩
    · exact ⟨[], ⟨rfl, shared rfl hr hf⟩, by simp [dpOf]⟩
    · rename_i h0 h1
      obtain ⟨F, d1, d2, d3⟩ := fillD_cont (P := E.P) (G := G) (w := w) av.cells 0 c _ o' (fun i => .t 0 i) hf (rel_solid hr hsol) (fun i oe hi hlt hw => by
        have := (hoo _ oe hi).1; rw [hw] at this; cases this) (fun i j e => by cases e; rfl)
      -- nothing is held: the content has no memory
      have hF : F = [] := by
        have : ∀ (cs : List AV) (k : Nat) (cs' : List AV) (us : List Value) (F : List Nat), fillD o' k cs = some cs' → DVL E.P w cs' us F → F = [] := by
          intro cs
          induction cs with
          | nil => intro k cs' us F h1 h2; simp [fillD] at h1; subst h1; exact h2.2
          | cons y cs ih =>
            intro k cs' us F h1 h2
            simp only [fillD] at h1
            split at h1
            · rename_i r hr
              have noown : ∀ {oe : OE}, lkO o' k = some oe → oe.owner = false := fun h => (hoo _ _ (lkO_mem h)).1
              split at h1
              · rename_i h3; have := noown h3; cases this
              · rename_i h3; have := noown h3; cases this
              · cases h1
              · split at h1 <;> first
                  | (cases h1; obtain ⟨u, r', F1, F2, _, rfl, e3, e4⟩ := h2; rw [e3.2, ih (k + 1) _ _ _ hr e4]; rfl)
                  | cases h1
            · cases h1
        exact this _ _ _ _ _ hf d1
      subst hF
      have hdp : dpOf md = true := by unfold dpOf; split <;> simp_all
      refine ⟨[], ?_, by simp⟩
      rw [hdp]
      exact ⟨d1, d2, by simp⟩
  | taken t y hx hs ht hn =>
    subst hx; cases hs
    have hpt := hp t (by simp) rfl
    obtain ⟨_, hr, hoo⟩ := hI.tm t _ _ ht
    obtain ⟨h1, av1⟩ := hI.clear ht
    have av2 : Av D0 (L.upds [.f (.t t), .t t (.v av, [])]) := (hav.f (.t t)).setT trivial (fun j oe hj => by cases hj)
    have hfl : Value.flat (a.eval (.tmp t)) = (a.eval (.tmp t)).cells.toList := flat_cells (rel_notuple (u := a.eval (.tmp t)) hr hsol)
    have hS : Stp (DR (.t t)) w w G (G.hand (moveIn t p) G.pv) := Stp.hand hI (fun q hq => by
      cases q with
      | b i j => rfl
      | t i j => simp only [DR] at hq; simp only [moveIn, if_neg hq]
      | a i j => rfl) (fun q _ => rfl) (fun i j => rfl)
    have i2 := h1.step' av1 hS
    have hlabp : ∀ b, G.lab b = some (.own p) → (G.hand (moveIn t p) G.pv).lab b = some (.own p) := by
      intro b hb
      have : moveIn t p p = p := by
        cases p with
        | t k j => simp only [moveIn]; rw [if_neg (fun e => hpt j (by rw [e]))]
        | b k j => rfl
        | a k j => rfl
      simp [Gho.hand, hb, LP.to, this]
    refine ⟨G.hand (moveIn t p) G.pv, rfl, hlabp, fun b hb => by simp [Gho.hand, hb], fun q => rfl, rfl, i2, av2, hr, ?_⟩
    unfold fillM at hf
    split at hf
    · exact ⟨[], ⟨rfl, shared rfl hr hf⟩, by simp [dpOf]⟩
    · exact ⟨[], ⟨rfl, shared rfl hr hf⟩, by simp [dpOf]⟩
    · rename_i h0' h1'
      obtain ⟨F, d1, d2, d3⟩ := fillD_cont (P := E.P) (G := G) (w := w) av.cells 0 c (a.eval (.tmp t)).cells.toList o' (fun i => .t t i) hf (rel_solid hr hsol) (fun i oe hi hlt hw => by
        obtain ⟨u, hu, hoc⟩ := hoo _ oe hi
        have hu' : (Value.flat (a.eval (.tmp t)))[0 + i]? = some u := hu
        rw [hfl, Nat.zero_add] at hu'
        refine ⟨u, hu', ?_⟩
        cases oe with
        | app e => exact hoc.2
        | ex e dp xs => exact hoc.2
        | al q π => cases hw
        | sb q π lo sz n => cases hw) (fun i j e => by cases e; rfl)
      have hdp : dpOf md = true := by unfold dpOf; split <;> simp_all
      refine ⟨F, ?_, fun _ b hb e => ?_⟩
      · rw [hdp]
        refine ⟨d1, d2, fun b hb => ?_⟩
        obtain ⟨e1, i, _, e2⟩ := d3 b hb
        exact ⟨by simp [Gho.hand, e2, LP.to, moveIn], e1⟩
      · obtain ⟨_, i, _, e2⟩ := d3 b hb
        rw [e] at e2
        injection e2 with e3
        injection e3 with e4
        exact hpt i e4
end Go.Bv
